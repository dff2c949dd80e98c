/- A small symbolic layer over the model, part 1: values, blocks, one operation and what it does; it speaks of no one program. -/
import Derived.WalkKit
import Derived.ChangeKeysEq
import Derived.Lib.ConvBytes
import Derived.Laws.BytesString
set_option linter.unusedVariables false
set_option linter.unusedSimpArgs false
/-
  A small symbolic layer over the model: values with numbered blocks of the call's own, a heap as a list, and what a call does said over these. Nothing here speaks of one program.
-/
namespace Go.Sx

inductive Cap where
  | k (n : Nat)
  | u (lo : Nat)
  | i (lo : Nat)
  | w

inductive V where
  | any
  | v (x : Value)
  | p (i off : Nat)
  | s (i off len : Nat) (cap : Cap)
  | e (i off c l z : Nat)
  | a (cs : List V)
  | t (vs : List V)
  | f (n : Nat) (cs : List V)

instance : Inhabited V := ⟨.any⟩

structure Loc where
  blk : Nat
  off : Nat
  cap : Nat

def Cap.val (c : Cap) (m : Nat) : Nat := match c with | .k n => n | .u lo => m - lo | .i lo => m - lo | .w => m

mutual
def conc (σ : Nat → Loc) : V → Value
  | .any => undef
  | .v x => x
  | .p i off => .pointer (some ⟨(σ i).blk, (σ i).off + off, none⟩)
  | .s i off len c => .slice (some ⟨(σ i).blk, (σ i).off + off, none⟩) len (c.val (σ i).cap)
  | .e i off c l z => .slice (some ⟨(σ i).blk, (σ i).off + (if (σ i).cap - c = l then off else off + l * z), none⟩) 0 ((σ i).cap - c - l)
  | .a cs => .agg (concs σ cs).toArray
  | .t vs => .tuple (concs σ vs).toArray
  | .f n cs => .func (.func n) #[] (concs σ cs).toArray
def concs (σ : Nat → Loc) : List V → List Value
  | [] => []
  | x :: xs => conc σ x :: concs σ xs
end

def V.one : V → Bool
  | .v x => x.oneCell'
  | .p .. => true
  | .s .. => true
  | .e .. => true
  | .f .. => true
  | _ => false

mutual
def V.lt (n : Nat) : V → Prop
  | .any => True
  | .v x => x.oneCell' = true
  | .p i _ => i < n
  | .s i _ _ _ => i < n
  | .e i _ _ _ _ => i < n
  | .a cs => lts n cs ∧ cs.all V.one = true
  | .t vs => lts n vs
  | .f _ cs => lts n cs
def lts (n : Nat) : List V → Prop
  | [] => True
  | x :: xs => V.lt n x ∧ lts n xs
end

inductive BK where
  | fix
  | own (sz : Nat)
  | ro
  | dead
  | byt
  | pin (k : Nat)

structure Blk where
  cells : List V
  elem : TypeId
  k : BK

def BK.mut : BK → Bool
  | .fix => true
  | .own _ => true
  | .byt => true
  | _ => false
def BK.live : BK → Bool
  | .dead => false
  | _ => true

theorem concs_eq (σ : Nat → Loc) : ∀ l : List V, concs σ l = l.map (conc σ)
  | [] => rfl
  | x :: xs => by rw [concs, concs_eq σ xs, List.map_cons]
theorem concs_length (σ : Nat → Loc) (l : List V) : (concs σ l).length = l.length := by rw [concs_eq, List.length_map]
theorem concs_append (σ : Nat → Loc) (l m : List V) : concs σ (l ++ m) = concs σ l ++ concs σ m := by simp [concs_eq]
theorem concs_get (σ : Nat → Loc) (l : List V) (i : Nat) : (concs σ l)[i]? = l[i]?.map (conc σ) := by simp [concs_eq]

theorem lts_iff (n : Nat) : ∀ l : List V, lts n l ↔ ∀ x ∈ l, V.lt n x
  | [] => by simp [lts]
  | x :: xs => by simp [lts, lts_iff n xs]

mutual
theorem conc_congr {σ σ' : Nat → Loc} {n : Nat} (h : ∀ i, i < n → σ' i = σ i) : ∀ x : V, x.lt n → conc σ' x = conc σ x
  | .any, _ => rfl
  | .v _, _ => rfl
  | .p i off, hl => by simp only [V.lt] at hl; simp only [conc, h i hl]
  | .s i off len c, hl => by simp only [V.lt] at hl; simp only [conc, h i hl]
  | .e i off c l z, hl => by simp only [V.lt] at hl; simp only [conc, h i hl]
  | .a cs, hl => by simp only [V.lt] at hl; simp only [conc, concs_congr h cs hl.1]
  | .t cs, hl => by simp only [V.lt] at hl; simp only [conc, concs_congr h cs hl]
  | .f n cs, hl => by simp only [V.lt] at hl; simp only [conc, concs_congr h cs hl]
theorem concs_congr {σ σ' : Nat → Loc} {n : Nat} (h : ∀ i, i < n → σ' i = σ i) : ∀ l : List V, lts n l → concs σ' l = concs σ l
  | [], _ => rfl
  | x :: xs, hl => by simp only [lts] at hl; simp only [concs, conc_congr h x hl.1, concs_congr h xs hl.2]
end

mutual
theorem V.lt_mono {n m : Nat} (h : n ≤ m) : ∀ x : V, x.lt n → x.lt m
  | .any, _ => trivial
  | .v _, hl => hl
  | .p _ _, hl => Nat.lt_of_lt_of_le hl h
  | .s _ _ _ _, hl => Nat.lt_of_lt_of_le hl h
  | .e _ _ _ _ _, hl => Nat.lt_of_lt_of_le hl h
  | .a cs, hl => ⟨lts_mono h cs hl.1, hl.2⟩
  | .t cs, hl => lts_mono h cs hl
  | .f _ cs, hl => lts_mono h cs hl
theorem lts_mono {n m : Nat} (h : n ≤ m) : ∀ l : List V, lts n l → lts m l
  | [], _ => trivial
  | x :: xs, hl => ⟨V.lt_mono h x hl.1, lts_mono h xs hl.2⟩
end

def Holds (σ : Nat → Loc) (w : World) (i : Nat) (b : Blk) : Prop :=
  match b.k with
  | .fix => (σ i).off = 0 ∧ w.heap[(σ i).blk]? = some (.cells (concs σ b.cells).toArray b.elem (0, 0))
  | .own sz => (σ i).off = 0 ∧ ∃ cur n, w.heap[(σ i).blk]? = some (.cells cur b.elem (0, 0)) ∧ b.cells.length = n * sz ∧ n ≤ (σ i).cap ∧ cur.size = (σ i).cap * sz ∧ (σ i).cap ≤ maxLen ∧ cur.toList.take (n * sz) = concs σ b.cells
  | .ro => (σ i).blk < w.heap.size ∧ ∀ j u, (concs σ b.cells)[j]? = some u → w.cell? ⟨(σ i).blk, (σ i).off + j, none⟩ = some u
  | .dead => True
  | .byt => (σ i).off = 0 ∧ ∃ cur fr, w.heap[(σ i).blk]? = some (.cells cur b.elem fr) ∧ b.cells.length ≤ cur.size ∧ cur.size ≤ fr.1 ∧ cur.toList.take b.cells.length = concs σ b.cells
  | .pin k => ((σ i).off = 0 ∧ (σ i).blk = k) ∧ ∃ t fr, w.heap[(σ i).blk]? = some (.cells (concs σ b.cells).toArray t fr)

structure HRel (σ : Nat → Loc) (H : List Blk) (w : World) : Prop where
  holds : ∀ (i : Nat) (b : Blk), H[i]? = some b → Holds σ w i b
  sep : ∀ (i j : Nat) (bi bj : Blk), i ≠ j → H[i]? = some bi → H[j]? = some bj → bi.k.live = true → bj.k.mut = true → (σ i).blk ≠ (σ j).blk
  wf : ∀ (i : Nat) (b : Blk), H[i]? = some b → ∀ c ∈ b.cells, V.lt H.length c ∧ c.one = true

structure Fr (σ : Nat → Loc) (H : List Blk) (w w' : World) : Prop where
  os : w'.os = w.os
  tape : w'.tape = w.tape
  output : w'.output = w.output
  size : w.heap.size ≤ w'.heap.size
  block : ∀ k, k < w.heap.size → (∀ (i : Nat) (b : Blk), H[i]? = some b → b.k.mut = true → (σ i).blk ≠ k) → w'.heap[k]? = w.heap[k]?

def Spec (P : Program) (f : FuncId) (args : List V) (H : List Blk) (R : V → List Blk → Prop) : Prop :=
  ∀ (σ : Nat → Loc) (w : World), HRel σ H w → lts H.length args →
    Calls P f (concs σ args).toArray w fun e w' => ∃ v H' σ', R v H' ∧ e = .returned (conc σ' v) ∧ v.lt H'.length ∧ H.length ≤ H'.length ∧
      (∀ i, i < H.length → σ' i = σ i) ∧ HRel σ' H' w' ∧ Fr σ H w w' ∧
      (∀ (i : Nat) (b : Blk), H'[i]? = some b → b.k.mut = true → w.heap.size ≤ (σ' i).blk ∨ ∃ (i0 : Nat) (b0 : Blk), H[i0]? = some b0 ∧ b0.k.mut = true ∧ (σ i0).blk = (σ' i).blk)

theorem Spec.mono {P : Program} {f : FuncId} {args : List V} {H : List Blk} {R R' : V → List Blk → Prop} (h : Spec P f args H R) (hr : ∀ v H', R v H' → R' v H') : Spec P f args H R' :=
  fun σ w hw hl => (h σ w hw hl).mono fun _ _ ⟨v, H', σ', r, rest⟩ => ⟨v, H', σ', hr _ _ r, rest⟩

def Ret (P : Program) (f : FuncId) (args : List V) (H : List Blk) (v : V) (H' : List Blk) : Prop := Spec P f args H fun v1 H1 => v1 = v ∧ H1 = H'

structure St where
  slots : List V
  heap : List Blk

def nth : List V → Nat → V
  | [], _ => .any
  | x :: _, 0 => x
  | _ :: xs, n + 1 => nth xs n
def setn : List V → Nat → V → List V
  | [], _, _ => []
  | _ :: xs, 0, v => v :: xs
  | x :: xs, n + 1, v => x :: setn xs n v

def cst : Value → V
  | .agg _ => .any
  | .tuple _ => .any
  | x => .v x
def ev (sl : List V) : Operand → V
  | .tmp t => nth sl t
  | .const v => cst v
  | .global g => .v (.pointer (some ⟨g, 0, none⟩))
  | .func f => .f f []

def St.put (s : St) (d : Option Tmp) (v : V) : St := match d with | some d => ⟨setn s.slots d v, s.heap⟩ | none => s

theorem nth_eq : ∀ (l : List V) (i : Nat), nth l i = l[i]?.getD .any
  | [], _ => by simp [nth]
  | x :: _, 0 => by simp [nth]
  | _ :: xs, n + 1 => by simp [nth, nth_eq xs n]
theorem setn_eq : ∀ (l : List V) (i : Nat) (v : V), setn l i v = l.set i v
  | [], _, _ => by simp [setn]
  | x :: _, 0, _ => by simp [setn]
  | _ :: xs, n + 1, v => by simp [setn, setn_eq xs n v]

structure En where
  σ : Nat → Loc
  H : List Blk
  w : World

structure Rel (E : En) (σ : Nat → Loc) (s : St) (a : Act) (w : World) : Prop where
  defers : a.defers = []
  size : a.tmps.size = s.slots.length
  slots : ∀ (t : Nat) (v : V), s.slots[t]? = some v → v = .any ∨ a.tmps[t]? = some (conc σ v)
  lt : ∀ v ∈ s.slots, V.lt s.heap.length v
  heap : HRel σ s.heap w
  len : E.H.length ≤ s.heap.length
  agree : ∀ i, i < E.H.length → σ i = E.σ i
  fr : Fr E.σ E.H E.w w
  new : ∀ (i : Nat) (b : Blk), s.heap[i]? = some b → b.k.mut = true → E.w.heap.size ≤ (σ i).blk ∨ ∃ (i0 : Nat) (b0 : Blk), E.H[i0]? = some b0 ∧ b0.k.mut = true ∧ (E.σ i0).blk = (σ i).blk

end Go.Sx
namespace Go.Sx
open Go.RowKit

theorem HRel.blk_lt {σ : Nat → Loc} {H : List Blk} {w : World} (h : HRel σ H w) {i : Nat} {b : Blk} (hi : H[i]? = some b) (hl : b.k.live = true) : (σ i).blk < w.heap.size := by
  have hh := h.holds i b hi
  unfold Holds at hh
  split at hh
  · exact (Array.getElem?_eq_some_iff.1 hh.2).1
  · obtain ⟨_, cur, n, hg, _⟩ := hh; exact (Array.getElem?_eq_some_iff.1 hg).1
  · exact hh.1
  · rename_i hk; rw [hk] at hl; cases hl
  · obtain ⟨_, cur, fr, hg, _⟩ := hh; exact (Array.getElem?_eq_some_iff.1 hg).1
  · obtain ⟨_, t, fr, hg⟩ := hh; exact (Array.getElem?_eq_some_iff.1 hg).1

theorem Holds.cell {σ : Nat → Loc} {w : World} {i : Nat} {b : Blk} (h : Holds σ w i b) (hl : b.k.live = true) {j : Nat} {u : Value} (hu : (concs σ b.cells)[j]? = some u) :
    w.cell? ⟨(σ i).blk, (σ i).off + j, none⟩ = some u := by
  unfold Holds at h
  split at h
  · obtain ⟨h0, hg⟩ := h
    rw [h0, Nat.zero_add, cell_of_row w _ j _ _ _ hg]
    simpa using hu
  · obtain ⟨h0, cur, n, hg, hn, hcap, hsz, hmax, htake⟩ := h
    rw [h0, Nat.zero_add, cell_of_row w _ j _ _ _ hg]
    rw [← htake, List.getElem?_take] at hu
    split at hu
    · simpa using hu
    · cases hu
  · exact h.2 j u hu
  · rename_i hk; rw [hk] at hl; cases hl
  · obtain ⟨h0, cur, fr, hg, hn, hfr, htake⟩ := h
    rw [h0, Nat.zero_add, cell_of_row w _ j _ _ _ hg]
    rw [← htake, List.getElem?_take] at hu
    split at hu
    · simpa using hu
    · cases hu
  · obtain ⟨h0, t, fr, hg⟩ := h
    rw [h0.1, Nat.zero_add, cell_of_row w _ j _ _ _ hg]
    simpa using hu

theorem Holds.congr {σ σ' : Nat → Loc} {w w' : World} {i : Nat} {b : Blk} (h : Holds σ w i b) (hi : σ' i = σ i) (hc : concs σ' b.cells = concs σ b.cells)
    (hs : w.heap.size ≤ w'.heap.size) (hb : b.k.live = true → w'.heap[(σ i).blk]? = w.heap[(σ i).blk]?) : Holds σ' w' i b := by
  unfold Holds at h ⊢
  rw [hi, hc]
  split
  · rename_i hk; simp only [hk] at h; exact ⟨h.1, by rw [hb (by rw [hk]; rfl)]; exact h.2⟩
  · rename_i sz hk; simp only [hk] at h
    obtain ⟨h0, cur, n, hg, rest⟩ := h
    exact ⟨h0, cur, n, by rw [hb (by rw [hk]; rfl)]; exact hg, rest⟩
  · rename_i hk; simp only [hk] at h
    exact ⟨Nat.lt_of_lt_of_le h.1 hs, fun j u hu => by rw [World.cell?_of_block (w := w) (hb (by rw [hk]; rfl))]; exact h.2 j u hu⟩
  · trivial
  · rename_i hk; simp only [hk] at h
    obtain ⟨h0, cur, fr, hg, rest⟩ := h
    exact ⟨h0, cur, fr, by rw [hb (by rw [hk]; rfl)]; exact hg, rest⟩
  · rename_i hk; simp only [hk] at h
    obtain ⟨h0, t, fr, hg⟩ := h
    exact ⟨h0, t, fr, by rw [hb (by rw [hk]; rfl)]; exact hg⟩

theorem HRel.pin {σ : Nat → Loc} {H : List Blk} {w : World} (h : HRel σ H w) {i k : Nat} {cs : List V} {t : TypeId} (hi : H[i]? = some ⟨cs, t, .pin k⟩) : ∃ ty fr, w.heap[k]? = some (.cells (concs σ cs).toArray ty fr) := by
  have hh := h.holds i _ hi
  obtain ⟨⟨_, hk⟩, ty, fr, hg⟩ := (hh : _ ∧ _)
  rw [hk] at hg
  exact ⟨ty, fr, hg⟩
theorem HRel.pin_cell {σ : Nat → Loc} {H : List Blk} {w : World} (h : HRel σ H w) {i k : Nat} {cs : List V} {t : TypeId} (hi : H[i]? = some ⟨cs, t, .pin k⟩) {j : Nat} {u : Value} (hu : (concs σ cs)[j]? = some u) : w.cell? ⟨k, j, none⟩ = some u := by
  obtain ⟨ty, fr, hg⟩ := h.pin hi
  rw [cell_of_row w _ j _ _ _ hg]
  simpa using hu
theorem HRel.pin_var {P : Program} {σ : Nat → Loc} {H : List Blk} {w : World} (h : HRel σ H w) {i k : Nat} {cs : List V} {t : TypeId} (hi : H[i]? = some ⟨cs, t, .pin k⟩) {name : String} (hn : P.globalNamed name = some k) : w.var? P name = some (concs σ cs).toArray := by
  obtain ⟨ty, fr, hg⟩ := h.pin hi
  unfold World.var?
  rw [hn]
  simp [hg]

theorem HRel.keep {σ σ' : Nat → Loc} {H : List Blk} {w w' : World} (h : HRel σ H w) (ha : ∀ i, i < H.length → σ' i = σ i) (hs : w.heap.size ≤ w'.heap.size)
    (hb : ∀ (i : Nat) (b : Blk), H[i]? = some b → b.k.live = true → w'.heap[(σ i).blk]? = w.heap[(σ i).blk]?) : HRel σ' H w' := by
  have hlt : ∀ (i : Nat) (b : Blk), H[i]? = some b → i < H.length := fun i b hi => (List.getElem?_eq_some_iff.1 hi).1
  refine ⟨fun i b hi => ?_, fun i j bi bj hne hi hj h1 h2 => ?_, h.wf⟩
  · refine (h.holds i b hi).congr (ha i (hlt i b hi)) ?_ hs (hb i b hi)
    exact concs_congr ha _ ((lts_iff _ _).2 fun c hc => (h.wf i b hi c hc).1)
  · rw [ha i (hlt i bi hi), ha j (hlt j bj hj)]
    exact h.sep i j bi bj hne hi hj h1 h2

theorem HRel.push {σ σ' : Nat → Loc} {H : List Blk} {w w' : World} {b : Blk} (h : HRel σ H w) (ha : ∀ i, i < H.length → σ' i = σ i) (hs : w.heap.size ≤ w'.heap.size)
    (hb : ∀ k, k < w.heap.size → w'.heap[k]? = w.heap[k]?) (hn : w.heap.size ≤ (σ' H.length).blk) (hold : Holds σ' w' H.length b)
    (hwf : ∀ c ∈ b.cells, V.lt (H.length + 1) c ∧ c.one = true) : HRel σ' (H ++ [b]) w' := by
  have hk := h.keep ha hs (fun i b hi hl => hb _ (h.blk_lt hi hl))
  have hlt : ∀ (i : Nat) (b : Blk), H[i]? = some b → i < H.length := fun i b hi => (List.getElem?_eq_some_iff.1 hi).1
  have cs : ∀ (i : Nat) (x : Blk), (H ++ [b])[i]? = some x → (H[i]? = some x) ∨ (i = H.length ∧ x = b) := by
    intro i x hx
    rcases Nat.lt_trichotomy i H.length with hi | hi | hi
    · rw [List.getElem?_append_left hi] at hx; exact .inl hx
    · subst hi; rw [List.getElem?_append_right (Nat.le_refl _)] at hx; simp at hx; exact .inr ⟨rfl, hx.symm⟩
    · rw [List.getElem?_eq_none (by simp; omega)] at hx; cases hx
  refine ⟨fun i x hx => ?_, fun i j bi bj hne hi hj h1 h2 => ?_, fun i x hx c hc => ?_⟩
  · rcases cs i x hx with hi | ⟨rfl, rfl⟩
    · exact hk.holds i x hi
    · exact hold
  · rcases cs i bi hi with gi | ⟨ei, fi⟩ <;> rcases cs j bj hj with gj | ⟨ej, fj⟩
    · exact hk.sep i j bi bj hne gi gj h1 h2
    · have := h.blk_lt gi h1
      rw [ha i (hlt i bi gi), ej]; omega
    · have := h.blk_lt (i := j) gj (by cases hkk : bj.k <;> simp_all [BK.mut, BK.live])
      rw [ha j (hlt j bj gj), ei]; omega
    · exact absurd (ei.trans ej.symm) hne
  · simp only [List.length_append, List.length_singleton]
    rcases cs i x hx with hi | ⟨rfl, rfl⟩
    · exact ⟨V.lt_mono (Nat.le_succ _) _ (h.wf i x hi c hc).1, (h.wf i x hi c hc).2⟩
    · exact hwf c hc

theorem get_set_cases {H : List Blk} {n i : Nat} {b x : Blk} (hx : (H.set n b)[i]? = some x) : (i ≠ n ∧ H[i]? = some x) ∨ (i = n ∧ x = b) := by
  rw [List.getElem?_set] at hx
  split at hx
  · split at hx
    · cases hx; rename_i h _; exact .inr ⟨h.symm, rfl⟩
    · cases hx
  · rename_i h; exact .inl ⟨fun e => h e.symm, hx⟩

theorem HRel.write {σ : Nat → Loc} {H : List Blk} {w w' : World} {n : Nat} {b b' : Blk} (h : HRel σ H w) (hn : H[n]? = some b) (hm : b.k.mut = true) (hs : w.heap.size ≤ w'.heap.size)
    (hb : ∀ k, k < w.heap.size → k ≠ (σ n).blk → w'.heap[k]? = w.heap[k]?) (hold : Holds σ w' n b')
    (hwf : ∀ c ∈ b'.cells, V.lt H.length c ∧ c.one = true) : HRel σ (H.set n b') w' := by
  have hlive : b.k.live = true := by cases hkk : b.k <;> simp_all [BK.mut, BK.live]
  refine ⟨fun i x hx => ?_, fun i j bi bj hne hi hj h1 h2 => ?_, fun i x hx c hc => ?_⟩
  · rcases get_set_cases hx with ⟨hne, hi⟩ | ⟨rfl, rfl⟩
    · exact (h.holds i x hi).congr rfl rfl hs fun hl => hb _ (h.blk_lt hi hl) (h.sep i n x b hne hi hn hl hm)
    · exact hold
  · rcases get_set_cases hi with ⟨hne1, gi⟩ | ⟨ei, fi⟩ <;> rcases get_set_cases hj with ⟨hne2, gj⟩ | ⟨ej, fj⟩
    · exact h.sep i j bi bj hne gi gj h1 h2
    · exact ej ▸ h.sep i n bi b hne1 gi hn h1 hm
    · exact ei ▸ h.sep n j b bj (Ne.symm hne2) hn gj hlive h2
    · exact absurd (ei.trans ej.symm) hne
  · rw [List.length_set]
    rcases get_set_cases hx with ⟨hne, hi⟩ | ⟨rfl, rfl⟩
    · exact h.wf i x hi c hc
    · exact hwf c hc

theorem Fr.refl (σ : Nat → Loc) (H : List Blk) (w : World) : Fr σ H w w := ⟨rfl, rfl, rfl, Nat.le_refl _, fun _ _ _ => rfl⟩

theorem Fr.step {E : En} {w w' : World} (h : Fr E.σ E.H E.w w) (os : w'.os = w.os) (tape : w'.tape = w.tape) (output : w'.output = w.output) (hs : w.heap.size ≤ w'.heap.size)
    (hb : ∀ k, k < w.heap.size → (E.w.heap.size ≤ k ∨ ∃ (i0 : Nat) (b0 : Blk), E.H[i0]? = some b0 ∧ b0.k.mut = true ∧ (E.σ i0).blk = k) ∨ w'.heap[k]? = w.heap[k]?) : Fr E.σ E.H E.w w' := by
  refine ⟨os.trans h.os, tape.trans h.tape, output.trans h.output, Nat.le_trans h.size hs, fun k hk hno => ?_⟩
  rcases hb k (Nat.lt_of_lt_of_le hk h.size) with (h1 | ⟨i0, b0, g1, g2, g3⟩) | h3
  · omega
  · exact absurd g3 (hno i0 b0 g1 g2)
  · rw [h3]; exact h.block k hk hno

section
variable {E : En} {σ : Nat → Loc} {s : St} {a : Act} {w : World}

theorem Rel.put (h : Rel E σ s a w) (d : Option Tmp) (v : V) (hv : v.lt s.heap.length) : Rel E σ (s.put d v) (a.put d (conc σ v)) w := by
  cases d with
  | none => exact h
  | some d =>
    refine ⟨h.defers, ?_, ?_, ?_, h.heap, h.len, h.agree, h.fr, h.new⟩
    · simp only [St.put, Act.put, Array.size_setIfInBounds, setn_eq, List.length_set]; exact h.size
    · intro t u hu
      simp only [St.put, setn_eq, List.getElem?_set] at hu
      simp only [Act.put, Array.getElem?_setIfInBounds]
      split at hu
      · rename_i hdt
        split at hu
        · rename_i hlt; cases hu; right; rw [if_pos hdt, if_pos (by rw [h.size]; omega)]
        · cases hu
      · rename_i hdt
        rw [if_neg hdt]
        exact h.slots t u hu
    · intro u hu
      simp only [St.put, setn_eq] at hu
      rcases List.mem_or_eq_of_mem_set hu with hu | rfl
      · exact h.lt u hu
      · exact hv

theorem Rel.putAny (h : Rel E σ s a w) (d : Option Tmp) (x : Value) : Rel E σ (s.put d .any) (a.put d x) w := by
  cases d with
  | none => exact h
  | some d =>
    refine ⟨h.defers, ?_, ?_, ?_, h.heap, h.len, h.agree, h.fr, h.new⟩
    · simp only [St.put, Act.put, Array.size_setIfInBounds, setn_eq, List.length_set]; exact h.size
    · intro t u hu
      simp only [St.put, setn_eq, List.getElem?_set] at hu
      simp only [Act.put, Array.getElem?_setIfInBounds]
      split at hu
      · split at hu
        · cases hu; exact .inl rfl
        · cases hu
      · rename_i hdt
        rw [if_neg hdt]
        exact h.slots t u hu
    · intro u hu
      simp only [St.put, setn_eq] at hu
      rcases List.mem_or_eq_of_mem_set hu with hu | rfl
      · exact h.lt u hu
      · trivial

theorem Rel.ev (h : Rel E σ s a w) (x : Operand) (hx : ev s.slots x ≠ .any) : a.eval x = conc σ (ev s.slots x) := by
  cases x with
  | tmp t =>
    simp only [Go.Sx.ev, nth_eq] at hx ⊢
    cases hs : s.slots[t]? with
    | none => rw [hs] at hx; exact absurd rfl hx
    | some v =>
      rw [hs] at hx
      rcases h.slots t v hs with rfl | h'
      · exact absurd rfl hx
      · simp [Act.eval, h']
  | const v => cases v <;> first | rfl | exact absurd rfl hx
  | global g => rfl
  | func f => simp [Act.eval, Go.Sx.ev, conc, concs]

theorem Rel.evlt (h : Rel E σ s a w) (x : Operand) : V.lt s.heap.length (Go.Sx.ev s.slots x) := by
  cases x with
  | tmp t =>
    simp only [Go.Sx.ev, nth_eq]
    cases hs : s.slots[t]? with
    | none => trivial
    | some v => exact h.lt v (List.mem_of_getElem? hs)
  | const v => cases v <;> first | rfl | exact trivial
  | global g => rfl
  | func f => trivial

theorem Rel.world (h : Rel E σ s a w) {w' : World} {σ' : Nat → Loc} {H' : List Blk} (ha : ∀ i, i < s.heap.length → σ' i = σ i) (hl : s.heap.length ≤ H'.length) (hh : HRel σ' H' w')
    (os : w'.os = w.os) (tape : w'.tape = w.tape) (output : w'.output = w.output) (hs : w.heap.size ≤ w'.heap.size)
    (hb : ∀ k, k < w.heap.size → (E.w.heap.size ≤ k ∨ ∃ (i0 : Nat) (b0 : Blk), E.H[i0]? = some b0 ∧ b0.k.mut = true ∧ (E.σ i0).blk = k) ∨ w'.heap[k]? = w.heap[k]?)
    (hnew : ∀ (i : Nat) (b : Blk), H'[i]? = some b → b.k.mut = true → E.w.heap.size ≤ (σ' i).blk ∨ ∃ (i0 : Nat) (b0 : Blk), E.H[i0]? = some b0 ∧ b0.k.mut = true ∧ (E.σ i0).blk = (σ' i).blk) :
    Rel E σ' ⟨s.slots, H'⟩ a w' := by
  refine ⟨h.defers, h.size, fun t v hv => ?_, fun v hv => V.lt_mono hl v (h.lt v hv), hh, Nat.le_trans h.len hl, fun i hi => ?_, h.fr.step os tape output hs hb, hnew⟩
  · rcases h.slots t v hv with h1 | h1
    · exact .inl h1
    · right; rw [h1, conc_congr ha v (h.lt v (List.mem_of_getElem? hv))]
  · rw [ha i (Nat.lt_of_lt_of_le hi h.len), h.agree i hi]
end

def upσ (σ : Nat → Loc) (n : Nat) (l : Loc) : Nat → Loc := fun i => if i = n then l else σ i
theorem upσ_same (σ : Nat → Loc) (n : Nat) (l : Loc) : upσ σ n l n = l := by simp [upσ]
theorem upσ_lt (σ : Nat → Loc) (n : Nat) (l : Loc) (i : Nat) (h : i < n) : upσ σ n l i = σ i := by simp [upσ, Nat.ne_of_lt h]

theorem Rel.alloc {E : En} {σ : Nat → Loc} {s : St} {a : Act} {w : World} (h : Rel E σ s a w) (b : Blk) (cells : Array Value) (cap : Nat)
    (hwf : ∀ c ∈ b.cells, V.lt s.heap.length c ∧ c.one = true)
    (hold : Holds (upσ σ s.heap.length ⟨w.heap.size, 0, cap⟩) (w.alloc (.cells cells b.elem)) s.heap.length b) :
    Rel E (upσ σ s.heap.length ⟨w.heap.size, 0, cap⟩) ⟨s.slots, s.heap ++ [b]⟩ a (w.alloc (.cells cells b.elem)) := by
  have ha : ∀ i, i < s.heap.length → upσ σ s.heap.length ⟨w.heap.size, 0, cap⟩ i = σ i := fun i hi => upσ_lt _ _ _ _ hi
  have hb : ∀ k, k < w.heap.size → (w.alloc (.cells cells b.elem)).heap[k]? = w.heap[k]? := fun k hk => Below.heap_alloc w _ k hk
  refine h.world ha (by simp) (h.heap.push ha (by simp) hb (by rw [upσ_same]; exact Nat.le_refl _) hold fun c hc => ⟨V.lt_mono (Nat.le_succ _) _ (hwf c hc).1, (hwf c hc).2⟩)
    rfl rfl rfl (by simp) (fun k hk => .inr (hb k hk)) ?_
  intro i x hx hm
  rcases Nat.lt_or_ge i s.heap.length with hi | hi
  · rw [List.getElem?_append_left hi] at hx
    rw [ha i hi]
    exact h.new i x hx hm
  · left
    have : i = s.heap.length := by
      rcases Nat.lt_or_ge s.heap.length i with hi' | hi'
      · rw [List.getElem?_eq_none (by simp; omega)] at hx; cases hx
      · omega
    subst this
    rw [upσ_same]
    exact h.fr.size

theorem Rel.write {E : En} {σ : Nat → Loc} {s : St} {a : Act} {w w' : World} (h : Rel E σ s a w) {n : Nat} {b b' : Blk} (hn : s.heap[n]? = some b) (hm : b.k.mut = true)
    (hhr : HRel σ (s.heap.set n b') w') (os : w'.os = w.os) (tape : w'.tape = w.tape) (output : w'.output = w.output) (hs : w.heap.size ≤ w'.heap.size)
    (hb : ∀ k, k < w.heap.size → k ≠ (σ n).blk → w'.heap[k]? = w.heap[k]?) : Rel E σ ⟨s.slots, s.heap.set n b'⟩ a w' := by
  refine h.world (fun _ _ => rfl) (by simp) hhr os tape output hs (fun k hk => ?_) ?_
  · by_cases hk' : k = (σ n).blk
    · left; subst hk'; exact h.new n b hn hm
    · exact .inr (hb k hk hk')
  · intro i x hx hmx
    rcases get_set_cases hx with ⟨_, hi⟩ | ⟨rfl, rfl⟩
    · exact h.new i x hi hmx
    · exact h.new i b hn hm

end Go.Sx
namespace Go.Sx
open Go.RowKit

inductive KD where
  | b
  | i (k : IntKind)

def okV : List KD → List V → Bool
  | [], [] => true
  | .i k :: r, .v (.int k' _) :: xs => decide (k = k') && okV r xs
  | .b :: r, .v (.bool _) :: xs => okV r xs
  | _, _ => false
def eqL : List V → List V → Bool
  | .v (.int _ a) :: r, .v (.int _ b) :: r' => decide (a = b) && eqL r r'
  | .v (.bool a) :: r, .v (.bool b) :: r' => decide (a = b) && eqL r r'
  | _, _ => true
def szq (P : Program) (t : TypeId) : Option Nat := (P.info? t).map (·.size)
def fldsK (P : Program) (g : TypeId → Option (List KD)) : List Field → Nat → Option (List KD)
  | [], _ => some []
  | f :: r, off => match g f.type with
    | some l => if (f.name != "_" && f.offset == off && szq P f.type == some l.length) = true then (fldsK P g r (off + l.length)).map (l ++ ·) else none
    | none => none
def kndo (P : Program) : Nat → TypeId → Option (List KD)
  | 0, _ => none
  | d + 1, t => match P.underlying t with
    | some .bool => some [.b]
    | some (.int k) => some [.i k]
    | some (.array n e) => (kndo P d e).bind fun l => if (szq P e == some l.length && szq P t == some (n * l.length)) = true then some (List.replicate n l).flatten else none
    | some (.struct fs) => if P.stoodInHeld t = true then none else (fldsK P (kndo P d) fs.toList 0).bind fun l => if (szq P t == some l.length) = true then some l else none
    | _ => none

def sg (cs : List V) (off n : Nat) : List V := (cs.drop off).take n
theorem sg_sg (cs : List V) (off n o m : Nat) (h : o + m ≤ n) : sg (sg cs off n) o m = sg cs (off + o) m := by
  unfold sg; rw [List.drop_take, List.drop_drop, List.take_take]; congr 1; omega
theorem sg_append (cs : List V) (off n m : Nat) : sg cs off (n + m) = sg cs off n ++ sg cs (off + n) m := by
  unfold sg; rw [List.take_add, List.drop_drop]
theorem okV_len : ∀ {ks : List KD} {xs : List V}, okV ks xs = true → xs.length = ks.length
  | [], [], _ => rfl
  | .i k :: r, .v (.int k' _) :: xs, h => by simp only [okV, Bool.and_eq_true] at h; simp [okV_len h.2]
  | .b :: r, .v (.bool _) :: xs, h => by simp only [okV] at h; simp [okV_len h]
  | [], _ :: _, h => by simp [okV] at h
  | .i k :: r, [], h => by simp [okV] at h
  | .b :: r, [], h => by simp [okV] at h
theorem okV_append : ∀ {ks ls : List KD} {xs ys : List V}, xs.length = ks.length → okV (ks ++ ls) (xs ++ ys) = true → okV ks xs = true ∧ okV ls ys = true
  | [], ls, [], ys, _, h => ⟨rfl, h⟩
  | [], _, _ :: _, _, hl, _ => by simp at hl
  | _ :: _, _, [], _, hl, _ => by simp at hl
  | k :: ks, ls, x :: xs, ys, hl, h => by
    simp only [List.length_cons, Nat.add_right_cancel_iff] at hl
    cases k with
    | b =>
      simp only [List.cons_append] at h
      unfold okV at h
      split at h
      · rename_i heq1 heq2; first | (cases heq2; done) | (cases heq1; done)
      · rename_i heq1 heq2; first | (cases heq2; done) | (cases heq1; done)
      · rename_i r z zs heq1 heq2
        simp only [List.cons.injEq, true_and] at heq1 heq2
        obtain ⟨rfl, rfl⟩ := heq2; subst heq1
        have := okV_append hl h
        exact ⟨by simp [okV, this.1], this.2⟩
      · cases h
    | i q =>
      simp only [List.cons_append] at h
      unfold okV at h
      split at h
      · rename_i heq1 heq2; first | (cases heq2; done) | (cases heq1; done)
      · rename_i k1 r k2 n1 zs heq1 heq2
        simp only [List.cons.injEq, KD.i.injEq] at heq1 heq2
        obtain ⟨rfl, rfl⟩ := heq1
        obtain ⟨rfl, rfl⟩ := heq2
        simp only [Bool.and_eq_true] at h
        have := okV_append hl h.2
        exact ⟨by simp only [okV, this.1, Bool.and_true]; exact h.1, this.2⟩
      · rename_i heq1 heq2; first | (cases heq2; done) | (cases heq1; done)
      · cases h
theorem eqL_append : ∀ {ks : List KD} {xs xs' ys ys' : List V}, okV ks xs = true → okV ks xs' = true → eqL (xs ++ ys) (xs' ++ ys') = (eqL xs xs' && eqL ys ys')
  | [], [], [], _, _, _, _ => by simp [eqL]
  | .i k :: r, .v (.int k1 a) :: xs, .v (.int k2 b) :: xs', ys, ys', h, h' => by
    simp only [okV, Bool.and_eq_true] at h h'
    simp only [List.cons_append, eqL, eqL_append h.2 h'.2, Bool.and_assoc]
  | .b :: r, .v (.bool a) :: xs, .v (.bool b) :: xs', ys, ys', h, h' => by
    simp only [okV] at h h'
    simp only [List.cons_append, eqL, eqL_append h h', Bool.and_assoc]
  | [], _ :: _, _, _, _, h, _ => by simp [okV] at h
  | [], [], _ :: _, _, _, _, h => by simp [okV] at h
  | .i k :: r, [], _, _, _, h, _ => by simp [okV] at h
  | .b :: r, [], _, _, _, h, _ => by simp [okV] at h
  | .i k :: r, _ :: _, [], _, _, _, h => by simp [okV] at h
  | .b :: r, _ :: _, [], _, _, _, h => by simp [okV] at h

theorem concs_sg (σ : Nat → Loc) (cs : List V) (off n : Nat) : concs σ (sg cs off n) = ((concs σ cs).drop off).take n := by
  simp [sg, concs_eq, List.map_take, List.map_drop]
theorem sg_one {cs : List V} {off : Nat} {x : V} (h : sg cs off 1 = [x]) : cs[off]? = some x := by
  unfold sg at h
  have : ((cs.drop off).take 1)[0]? = some x := by rw [h]; rfl
  rw [List.getElem?_take, if_pos (by omega), List.getElem?_drop] at this
  simpa using this
theorem okV_one {k : IntKind} {xs : List V} (h : okV [.i k] xs = true) : ∃ a, xs = [.v (.int k a)] := by
  unfold okV at h
  split at h
  · rename_i heq1 heq2; first | (cases heq2; done) | (cases heq1; done)
  · rename_i heq1
    simp only [List.cons.injEq, KD.i.injEq] at heq1
    obtain ⟨rfl, rfl⟩ := heq1
    rename_i k2 n xs
    simp only [Bool.and_eq_true, decide_eq_true_eq] at h
    obtain ⟨rfl, h⟩ := h
    have := okV_len h
    simp at this
    exact ⟨_, by rw [this]⟩
  · rename_i heq1 heq2; first | (cases heq2; done) | (cases heq1; done)
  · cases h
theorem okV_oneb {xs : List V} (h : okV [.b] xs = true) : ∃ a, xs = [.v (.bool a)] := by
  unfold okV at h
  split at h
  · rename_i heq1 heq2; first | (cases heq2; done) | (cases heq1; done)
  · rename_i heq1 heq2; first | (cases heq2; done) | (cases heq1; done)
  · rename_i heq1
    simp only [List.cons.injEq, true_and] at heq1
    subst heq1
    have := okV_len h
    simp at this
    exact ⟨_, by rw [this]⟩
  · cases h

def EqA (P : Program) (d : Nat) (t : TypeId) (ks : List KD) : Prop :=
  ∀ (n : Nat), d ≤ n → ∀ (σ : Nat → Loc) (w : World) (cs cs' : List V) (off off' : Nat), okV ks (sg cs off ks.length) = true → okV ks (sg cs' off' ks.length) = true →
    ∃ a b, (part t (concs σ cs).toArray off).run P w = .ok a w ∧ (part t (concs σ cs').toArray off').run P w = .ok b w ∧ (Op.equalIn n t a b).run P w = .ok (eqL (sg cs off ks.length) (sg cs' off' ks.length)) w

theorem run_eqItems_v {P : Program} {d : Nat} {e : TypeId} {l : List KD} (IH : EqA P d e l) (n : Nat) (hn : d ≤ n) (σ : Nat → Loc) (w : World) (cs cs' : List V) : ∀ (m j : Nat),
    okV (List.replicate m l).flatten (sg cs (j * l.length) (m * l.length)) = true → okV (List.replicate m l).flatten (sg cs' (j * l.length) (m * l.length)) = true →
    (Op.eqItems n e l.length (concs σ cs).toArray (concs σ cs').toArray (List.range' j m)).run P w = .ok (eqL (sg cs (j * l.length) (m * l.length)) (sg cs' (j * l.length) (m * l.length))) w
  | 0, j, _, _ => by simp [Op.eqItems, sg, eqL]
  | m + 1, j, h, h' => by
    have e1 : (m + 1) * l.length = l.length + m * l.length := by rw [Nat.add_mul, Nat.one_mul, Nat.add_comm]
    have e2 : j * l.length + l.length = (j + 1) * l.length := by rw [Nat.add_mul, Nat.one_mul]
    rw [e1, sg_append, List.replicate_succ, List.flatten_cons] at h h'
    have len : ∀ {c : List V}, okV (l ++ (List.replicate m l).flatten) (sg c (j * l.length) l.length ++ sg c (j * l.length + l.length) (m * l.length)) = true → (sg c (j * l.length) l.length).length = l.length := by
      intro c hc
      have := okV_len hc
      have lf : (List.replicate m l).flatten.length = m * l.length := by simp
      simp only [List.length_append, lf, sg, List.length_take, List.length_drop] at this ⊢
      omega
    have p := okV_append (len h) h
    have p' := okV_append (len h') h'
    obtain ⟨a, b, r1, r2, r3⟩ := IH n hn σ w cs cs' _ _ p.1 p'.1
    rw [e2] at p p' h h'
    have ih := run_eqItems_v IH n hn σ w cs cs' m (j + 1) p.2 p'.2
    simp only [List.range'_succ, Op.eqItems, Sem.run_bind, r1, r2, r3, Result.andThen_ok]
    rw [e1, sg_append, sg_append, eqL_append p.1 p'.1, e2]
    cases eqL (sg cs (j * l.length) l.length) (sg cs' (j * l.length) l.length)
    · simp
    · simp only [Bool.not_true, Bool.false_eq_true, if_false, Bool.true_and]; exact ih

theorem run_eqFields_v {P : Program} {d : Nat} (IH : ∀ t ks, kndo P d t = some ks → EqA P d t ks) (n : Nat) (hn : d ≤ n) (σ : Nat → Loc) (w : World) (cs cs' : List V) : ∀ (fs : List Field) (off : Nat) (ks : List KD),
    fldsK P (kndo P d) fs off = some ks → okV ks (sg cs off ks.length) = true → okV ks (sg cs' off ks.length) = true →
    (Op.eqFields n (concs σ cs).toArray (concs σ cs').toArray fs).run P w = .ok (eqL (sg cs off ks.length) (sg cs' off ks.length)) w
  | [], off, ks, hk, h, h' => by
    simp only [fldsK, Option.some.injEq] at hk; subst hk
    simp [Op.eqFields, sg, eqL]
  | f :: fs, off, ks, hk, h, h' => by
    simp only [fldsK] at hk
    split at hk
    · rename_i l hl
      split at hk
      · rename_i hc
        simp only [Bool.and_eq_true, bne_iff_ne, ne_eq, beq_iff_eq] at hc
        obtain ⟨ls, hls, rfl⟩ := Option.map_eq_some_iff.1 hk
        rw [List.length_append, sg_append] at h h'
        have len : ∀ {c : List V}, okV (l ++ ls) (sg c off l.length ++ sg c (off + l.length) ls.length) = true → (sg c off l.length).length = l.length := by
          intro c hc
          have := okV_len hc
          simp only [List.length_append, sg, List.length_take, List.length_drop] at this ⊢
          omega
        have p := okV_append (len h) h
        have p' := okV_append (len h') h'
        obtain ⟨a, b, r1, r2, r3⟩ := IH _ _ hl n hn σ w cs cs' _ _ p.1 p'.1
        have ih := run_eqFields_v IH n hn σ w cs cs' fs _ ls hls p.2 p'.2
        simp only [Op.eqFields, ne_eq, hc.1.1, not_false_eq_true, if_true, hc.1.2, Sem.run_bind, r1, r2, r3, Result.andThen_ok]
        rw [List.length_append, sg_append, sg_append, eqL_append p.1 p'.1]
        cases eqL (sg cs off l.length) (sg cs' off l.length)
        · simp
        · simp only [Bool.not_true, Bool.false_eq_true, if_false, Bool.true_and]; exact ih
      · cases hk
    · cases hk

theorem szq_info {P : Program} {t : TypeId} {n : Nat} (h : szq P t = some n) : ∃ i, P.info? t = some i ∧ i.size = n := by
  unfold szq at h
  cases hi : P.info? t with
  | none => rw [hi] at h; cases h
  | some i => rw [hi] at h; exact ⟨i, rfl, by simpa using h⟩
theorem part_agg {P : Program} {t : TypeId} {n : Nat} (ha : (match P.underlying t with | some (.struct _) | some (.array _ _) => true | _ => false) = true) (hs : szq P t = some n) (σ : Nat → Loc) (w : World) (cs : List V) (off : Nat) :
    (part t (concs σ cs).toArray off).run P w = .ok (.agg (concs σ (sg cs off n)).toArray) w := by
  obtain ⟨i, hi, rfl⟩ := szq_info hs
  have hu : (isAgg t).run P w = .ok true w := by
    unfold isAgg
    split at ha
    · rename_i hu; simp [run_underlying hu]
    · rename_i hu; simp [run_underlying hu]
    · cases ha
  simp only [part, Sem.run_bind, hu, Result.andThen_ok, if_true, sizeOf, typeInfo, run_program, hi, Sem.run_pure]
  congr 2
  simp [concs_sg, List.extract_eq_take_drop]
theorem part_cell {P : Program} {t : TypeId} (ha : ∃ d, P.underlying t = some d ∧ (∀ fs, d ≠ .struct fs) ∧ ∀ n e, d ≠ .array n e) (σ : Nat → Loc) (w : World) (cs : List V) (off : Nat) {x : V} (h : cs[off]? = some x) :
    (part t (concs σ cs).toArray off).run P w = .ok (conc σ x) w := by
  obtain ⟨d, hd, h1, h2⟩ := ha
  have hu : (isAgg t).run P w = .ok false w := by
    unfold isAgg
    cases d <;> first | exact absurd rfl (h1 _) | exact absurd rfl (h2 _ _) | simp [run_underlying hd]
  simp only [part, Sem.run_bind, hu, Result.andThen_ok, Bool.false_eq_true, if_false]
  have : (concs σ cs).toArray[off]? = some (conc σ x) := by simp [concs_eq, h]
  simp [this]

theorem eqK_sound {P : Program} : ∀ (d : Nat) (t : TypeId) (ks : List KD), kndo P d t = some ks → EqA P d t ks
  | 0, _, _, h => by cases h
  | d + 1, t, ks, h => by
    intro n hn σ w cs cs' off off' ho ho'
    obtain ⟨n, rfl⟩ : ∃ m, n = m + 1 := ⟨n - 1, by omega⟩
    simp only [kndo] at h
    split at h
    · rename_i hu
      cases h
      obtain ⟨a, ha⟩ := okV_oneb ho
      obtain ⟨b, hb⟩ := okV_oneb ho'
      have d1 : ∃ d, P.underlying t = some d ∧ (∀ fs, d ≠ .struct fs) ∧ ∀ n e, d ≠ .array n e := ⟨_, hu, (fun _ e => by cases e), (fun _ _ e => by cases e)⟩
      refine ⟨_, _, part_cell d1 σ w cs off (sg_one ha), part_cell d1 σ w cs' off' (sg_one hb), ?_⟩
      simp only [List.length_singleton] at ha hb ⊢
      rw [ha, hb]
      simp [Op.equalIn, run_underlying hu, conc, eqL]
      cases a <;> cases b <;> rfl
    · rename_i k hu
      cases h
      obtain ⟨a, ha⟩ := okV_one ho
      obtain ⟨b, hb⟩ := okV_one ho'
      have d1 : ∃ d, P.underlying t = some d ∧ (∀ fs, d ≠ .struct fs) ∧ ∀ n e, d ≠ .array n e := ⟨_, hu, (fun _ e => by cases e), (fun _ _ e => by cases e)⟩
      refine ⟨_, _, part_cell d1 σ w cs off (sg_one ha), part_cell d1 σ w cs' off' (sg_one hb), ?_⟩
      simp only [List.length_singleton] at ha hb ⊢
      rw [ha, hb]
      simp [Op.equalIn, run_underlying hu, conc, eqL]
      rfl
    · rename_i m e hu
      obtain ⟨l, hl, h⟩ := Option.bind_eq_some_iff.1 h
      split at h
      · rename_i hc
        cases h
        simp only [Bool.and_eq_true, beq_iff_eq] at hc
        have lf : (List.replicate m l).flatten.length = m * l.length := by simp
        rw [lf] at ho ho' ⊢
        refine ⟨_, _, part_agg (by rw [hu]) hc.2 σ w cs off, part_agg (by rw [hu]) hc.2 σ w cs' off', ?_⟩
        obtain ⟨i, hi, hsz⟩ := szq_info hc.1
        rw [run_equalIn_array w n _ _ hu hi]
        have hcell : P.cellsOf e = l.length := by unfold Program.cellsOf; rw [hi]; simpa using hsz
        rw [hcell, List.range_eq_range']
        have s0 : ∀ (c : List V) (o : Nat), sg (sg c o (m * l.length)) (0 * l.length) (m * l.length) = sg c o (m * l.length) := by
          intro c o; rw [sg_sg _ _ _ _ _ (by omega)]; simp
        have := run_eqItems_v (eqK_sound d e l hl) n (by omega) σ w (sg cs off (m * l.length)) (sg cs' off' (m * l.length)) m 0 (by rw [s0]; exact ho) (by rw [s0]; exact ho')
        rw [s0, s0] at this
        exact this
      · cases h
    · rename_i fs hu
      split at h
      · cases h
      · rename_i hst
        obtain ⟨l, hl, h⟩ := Option.bind_eq_some_iff.1 h
        split at h
        · rename_i hc
          cases h
          simp only [beq_iff_eq] at hc
          refine ⟨_, _, part_agg (by rw [hu]) hc σ w cs off, part_agg (by rw [hu]) hc σ w cs' off', ?_⟩
          have hf : P.fieldsOf t = fs := by unfold Program.fieldsOf; rw [hu]
          rw [run_equalIn_struct (P := P) w n t _ _ (by rw [hf]; exact hu) (by simpa using hst), hf]
          have s0 : ∀ (c : List V) (o : Nat), sg (sg c o ks.length) 0 ks.length = sg c o ks.length := by
            intro c o; rw [sg_sg _ _ _ _ _ (by omega)]; simp
          have := run_eqFields_v (fun t' ks' h' => eqK_sound d t' ks' h') n (by omega) σ w (sg cs off ks.length) (sg cs' off' ks.length) fs.toList 0 ks hl (by rw [s0]; exact ho) (by rw [s0]; exact ho')
          rw [s0, s0] at this
          exact this
        · cases h
    · cases h

def eqo (P : Program) (t : TypeId) : Option (List KD) := match P.underlying t with
  | some (.struct _) | some (.array _ _) => if P.eqGuardType P.depth t = true then none else kndo P 20 t
  | _ => none
def binA (P : Program) (op : BinOp) (t : TypeId) (xs ys : List V) : Option (Prop × V) := match eqo P t, op with
  | some ks, .eql => some (okV ks xs = true ∧ okV ks ys = true, .v (.bool (eqL xs ys)))
  | some ks, .neq => some (okV ks xs = true ∧ okV ks ys = true, .v (.bool (!eqL xs ys)))
  | _, _ => none
theorem binA_sound {P : Program} {op : BinOp} {t : TypeId} {xs ys : List V} {p : Prop} {v : V} (σ : Nat → Loc) (h : binA P op t xs ys = some (p, v)) (hp : p) (ox oy : Operand) (w : World) :
    ((do eqGuard op t ox oy (.agg (concs σ xs).toArray) (.agg (concs σ ys).toArray); binOp op t (.agg (concs σ xs).toArray) (.agg (concs σ ys).toArray)) : Sem Value).run P w = .ok (conc σ v) w := by
  have key : ∀ ks, eqo P t = some ks → okV ks xs = true → okV ks ys = true → P.eqGuardType P.depth t = false ∧ (Op.equal t (.agg (concs σ xs).toArray) (.agg (concs σ ys).toArray)).run P w = .ok (eqL xs ys) w := by
    intro ks hk h1 h2
    have l1 := okV_len h1
    have l2 := okV_len h2
    have s1 : sg xs 0 ks.length = xs := by unfold sg; rw [List.drop_zero, ← l1, List.take_length]
    have s2 : sg ys 0 ks.length = ys := by unfold sg; rw [List.drop_zero, ← l2, List.take_length]
    unfold eqo at hk
    have fin : ∀ (hagg : (match P.underlying t with | some (.struct _) | some (.array _ _) => true | _ => false) = true) (hk : (if P.eqGuardType P.depth t = true then none else kndo P 20 t) = some ks), P.eqGuardType P.depth t = false ∧ (Op.equal t (.agg (concs σ xs).toArray) (.agg (concs σ ys).toArray)).run P w = .ok (eqL xs ys) w := by
      intro hagg hk
      split at hk
      · cases hk
      · rename_i hg
        refine ⟨by simpa using hg, ?_⟩
        obtain ⟨a, b, r1, r2, r3⟩ := eqK_sound 20 t ks hk 10000 (by omega) σ w xs ys 0 0 (by rw [s1]; exact h1) (by rw [s2]; exact h2)
        have hsz : szq P t = some ks.length := by
          unfold kndo at hk
          split at hk
          · rename_i hu; rw [hu] at hagg; cases hagg
          · rename_i hu; rw [hu] at hagg; cases hagg
          · obtain ⟨l, hl, hk⟩ := Option.bind_eq_some_iff.1 hk
            split at hk
            · rename_i hc; simp only [Bool.and_eq_true, beq_iff_eq] at hc; cases hk; rw [hc.2]; simp
            · cases hk
          · split at hk
            · cases hk
            · obtain ⟨l, hl, hk⟩ := Option.bind_eq_some_iff.1 hk
              split at hk
              · rename_i hc; simp only [beq_iff_eq] at hc; cases hk; exact hc
              · cases hk
          · cases hk
        rw [part_agg hagg hsz, s1] at r1
        rw [part_agg hagg hsz, s2] at r2
        cases r1; cases r2
        rw [s1, s2] at r3
        exact r3
    split at hk
    · rename_i hu; exact fin (by rw [hu]) hk
    · rename_i hu; exact fin (by rw [hu]) hk
    · cases hk
  unfold binA at h
  split at h
  · rename_i ks hk
    cases h
    obtain ⟨hg, he⟩ := key ks hk hp.1 hp.2
    simp [eqGuard, hg, binOp, he, conc]
  · rename_i ks hk
    cases h
    obtain ⟨hg, he⟩ := key ks hk hp.1 hp.2
    simp [eqGuard, hg, binOp, he, conc]
  · cases h
end Go.Sx
namespace Go.Sx
open Go.RowKit

def In64 (n : Int) : Prop := -9223372036854775808 ≤ n ∧ n ≤ 9223372036854775807
theorem wrap_in64 {n : Int} (h : In64 n) : IntKind.i64.wrap n = n := by
  unfold In64 at h
  unfold IntKind.wrap
  simp only [IntKind.bits, IntKind.signed, Bool.true_and]
  split <;> rename_i hc <;> simp only [decide_eq_true_eq, ge_iff_le] at hc <;> omega

def fitI (k : IntKind) (n : Int) : Prop × V := match k with
  | .i64 => (In64 n, .v (.int .i64 n))
  | k => (True, .v (.int k (k.wrap n)))

def szo (P : Program) (t : TypeId) : Option Nat := (P.info? t).map (·.size)
def aggo (P : Program) (t : TypeId) : Option Bool := match P.underlying t with
  | some (.struct _) | some (.array _ _) => some true
  | some _ => some false
  | none => none

def seg (cs : List V) (off n : Nat) : List V := (cs.drop off).take n
def cel (cs : List V) (off : Nat) : V := nth cs off

def partV (P : Program) (t : TypeId) (cs : List V) (off : Nat) : Option (Prop × V) :=
  match aggo P t, szo P t with
  | some true, some n => some (off + n ≤ cs.length, .a (seg cs off n))
  | some false, some _ => some (off < cs.length, cel cs off)
  | _, _ => none

def binI (op : BinOp) (k : IntKind) (a b : Int) : Option (Prop × V) :=
  match op with
  | .add => some (fitI k (a + b))
  | .sub => some (fitI k (a - b))
  | .mul => some (fitI k (a * b))
  | .quo => some (b ≠ 0 ∧ (fitI k (a.tdiv b)).1, (fitI k (a.tdiv b)).2)
  | .rem => some (b ≠ 0, .v (.int k (a.tmod b)))
  | .and => some (True, .v (.int k (bits .and k a b)))
  | .or => some (True, .v (.int k (bits .or k a b)))
  | .xor => some (True, .v (.int k (bits .xor k a b)))
  | .andNot => some (True, .v (.int k (bits .andNot k a b)))
  | .eql => some (True, .v (.bool (decide (a = b))))
  | .neq => some (True, .v (.bool (!decide (a = b))))
  | .lss => some (True, .v (.bool (decide (a < b))))
  | .leq => some (True, .v (.bool (decide (a ≤ b))))
  | .gtr => some (True, .v (.bool (decide (b < a))))
  | .geq => some (True, .v (.bool (decide (b ≤ a))))
  | _ => none

def shI (op : BinOp) (k : IntKind) (a b : Int) : Option (Prop × V) :=
  match op with
  | .shl => some (0 ≤ b ∧ (fitI k (a * 2 ^ (min b.toNat k.bits))).1, (fitI k (a * 2 ^ (min b.toNat k.bits))).2)
  | .shr => some (0 ≤ b, .v (.int k (a.fdiv (2 ^ (min b.toNat k.bits)))))
  | _ => none

def binS (op : BinOp) (a b : ByteArray) : Option (Prop × V) :=
  match op with
  | .add => some (a.size + b.size ≤ 9223372036854775807, .v (.string (a ++ b)))
  | .eql => some (True, .v (.bool (decide (a.toList = b.toList))))
  | .neq => some (True, .v (.bool (!decide (a.toList = b.toList))))
  | _ => none

def slTy (P : Program) (t : TypeId) : Bool := match P.underlying t with | some (.slice _) => true | _ => false

def binNil (P : Program) (op : BinOp) (t : TypeId) (b : Bool) : Option (Prop × V) :=
  match slTy P t, op with
  | true, .eql => some (True, .v (.bool b))
  | true, .neq => some (True, .v (.bool (!b)))
  | _, _ => none

def binB (P : Program) (op : BinOp) (t : TypeId) (a b : Bool) : Option (Prop × V) :=
  match P.underlying t, op with
  | some .bool, .eql => some (True, .v (.bool (a == b)))
  | some .bool, .neq => some (True, .v (.bool (!(a == b))))
  | _, _ => none

def binV (P : Program) (op : BinOp) (t : TypeId) : V → V → Option (Prop × V)
  | .v (.int k a), .v (.int k' b) => match op with
    | .shl => shI .shl k a b
    | .shr => shI .shr k a b
    | op => if k = k' then binI op k a b else none
  | .v (.string a), .v (.string b) => binS op a b
  | .v (.slice none _ _), .v (.slice none _ _) => binNil P op t true
  | .s _ _ _ _, .v (.slice none _ _) => binNil P op t false
  | .v (.slice none _ _), .s _ _ _ _ => binNil P op t false
  | .a xs, .a ys => binA P op t xs ys
  | .v (.bool a), .v (.bool b) => binB P op t a b
  | _, _ => none

def unV (op : UnOp) : V → Option (Prop × V)
  | .v (.int k n) => match op with
    | .neg => some (fitI k (0 - n))
    | _ => none
  | .v (.bool b) => match op with
    | .not => some (True, .v (.bool (!b)))
    | _ => none
  | _ => none

def convV (P : Program) (src dst : TypeId) : V → Option (Prop × V)
  | .v (.int _ n) => match P.underlying src, P.underlying dst with
    | some _, some (.int k) => some (fitI k n)
    | _, _ => none
  | .v (.string s) => match P.underlying src, P.underlying dst with
    | some _, some .string => some (True, .v (.string s))
    | _, _ => none
  | _ => none

def fieldOf (P : Program) (t : TypeId) (f : Nat) : Option Field := match P.underlying t with
  | some (.struct fs) => fs[f]?
  | _ => none
def foff (P : Program) (t : TypeId) (f : Nat) : Option Nat := (fieldOf P t f).bind fun x => match szo P x.type with
  | some (_ + 1) => some x.offset
  | _ => none
def fieldAddrV (P : Program) (t : TypeId) (f : Nat) : V → Option (Prop × V)
  | .p i off => match foff P t f with
    | some o => some (True, .p i (off + o))
    | none => none
  | _ => none
def ftyp (P : Program) (t : TypeId) (f : Nat) : Option (TypeId × Nat) := (fieldOf P t f).map fun x => (x.type, x.offset)
def fieldV (P : Program) (t : TypeId) (f : Nat) : V → Option (Prop × V)
  | .a cs => match ftyp P t f with
    | some (ty, o) => partV P ty cs o
    | none => none
  | _ => none

def rowo (P : Program) (t : TypeId) : Option (Bool × Nat × Nat) := match P.underlying t with
  | some (.array n e) => (szo P e).map fun z => (true, n, z)
  | some (.slice e) => (szo P e).map fun z => (false, 0, z)
  | _ => none

def indexAddrV (P : Program) (t : TypeId) : V → V → Option (Prop × V)
  | .p i off, .v (.int _ n) => match rowo P t with
    | some (true, len, z) => some (0 ≤ n ∧ n < len, .p i (off + n.toNat * z))
    | _ => none
  | .s i off len _, .v (.int _ n) => match rowo P t with
    | some (false, _, z) => some (0 ≤ n ∧ n < len, .p i (off + n.toNat * z))
    | _ => none
  | _, _ => none

def etyp (P : Program) (t : TypeId) : Option (Nat × TypeId × Nat) := match P.underlying t with
  | some (.array n e) => (szo P e).map fun z => (n, e, z)
  | _ => none
def indexV (P : Program) (t : TypeId) : V → V → Option (Prop × V)
  | .a cs, .v (.int _ n) => match etyp P t with
    | some (len, e, z) => (partV P e cs (n.toNat * z)).map fun r => ((0 ≤ n ∧ n < len) ∧ r.1, r.2)
    | none => none
  | .v (.string s), .v (.int _ n) => match P.underlying t with
    | some .string => some (0 ≤ n ∧ n < s.size, .v (.int .u8 ((s.data.toList[n.toNat]?.getD 0).toNat : Int)))
    | _ => none
  | _, _ => none

def extractV (i : Nat) : V → Option (Prop × V)
  | .t vs => some (i < vs.length, nth vs i)
  | _ => none

def pickV (b : Bool) : V → V → V
  | .v (.bool x), .v (.bool y) => .v (.bool (if b = true then x else y))
  | x, y => if b = true then x else y
def pickB (x y : V) : V → Option (Prop × V)
  | .v (.bool b) => some (True, pickV b x y)
  | _ => none

def nilV : V → Option (Prop × V)
  | .p i off => some (True, .p i off)
  | .f n cs => some (True, .f n cs)
  | _ => none

def lenV (P : Program) (t : TypeId) : V → Option (Prop × V)
  | .s _ _ len _ => if slTy P t = true then some (True, .v (.int .i64 len)) else none
  | .e _ _ _ _ _ => if slTy P t = true then some (True, .v (.int .i64 (0 : Nat))) else none
  | .v (.slice none n _) => if slTy P t = true then some (True, .v (.int .i64 n)) else none
  | .v (.string s) => match P.underlying t with
    | some .string => some (True, .v (.int .i64 s.size))
    | _ => none
  | _ => none

def capV (P : Program) (t : TypeId) : V → Option (Prop × V)
  | .s _ _ _ (.k c) => if slTy P t = true then some (True, .v (.int .i64 c)) else none
  | .v (.slice none _ c) => if slTy P t = true then some (True, .v (.int .i64 c)) else none
  | _ => none

def max2V (mx : Bool) : V → V → Option (Prop × V)
  | .v (.int k x), .v (.int _ y) => some (True, .v (.int k (if mx then (if y > x then y else x) else (if y < x then y else x))))
  | _, _ => none

def pv (P : Program) (ρ : Operand → V) : Op → Option (Prop × V)
  | .move x | .assign x => some (True, ρ x)
  | .pick c x y => pickB (ρ x) (ρ y) (ρ c)
  | .nilCheck x => nilV (ρ x)
  | .binOp op t x y _ => binV P op t (ρ x) (ρ y)
  | .unOp op _ x => unV op (ρ x)
  | .convert src dst x => convV P src dst (ρ x)
  | .fieldAddr t x f => fieldAddrV P t f (ρ x)
  | .field t x f => fieldV P t f (ρ x)
  | .indexAddr t x i => indexAddrV P t (ρ x) (ρ i)
  | .index t x i => indexV P t (ρ x) (ρ i)
  | .extract x i => extractV i (ρ x)
  | .call { callee := .builtin .len, args := ⟨[x]⟩, argTypes := ⟨[t]⟩ } => lenV P t (ρ x)
  | .call { callee := .builtin .cap, args := ⟨[x]⟩, argTypes := ⟨[t]⟩ } => capV P t (ρ x)
  | .call { callee := .builtin .max, args := ⟨[x, y]⟩, .. } => max2V true (ρ x) (ρ y)
  | .call { callee := .builtin .min, args := ⟨[x, y]⟩, .. } => max2V false (ρ x) (ρ y)
  | _ => none

end Go.Sx
namespace Go.Sx
open Go.RowKit

theorem fitI_sound (σ : Nat → Loc) {k : IntKind} {n : Int} (h : (fitI k n).1) : Value.int k (k.wrap n) = conc σ (fitI k n).2 := by
  unfold fitI at *
  cases k <;> simp only [conc] at *
  rw [wrap_in64 h]

theorem fitI_sound' (σ : Nat → Loc) {k : IntKind} {n : Int} {p : Prop} {v : V} (h : fitI k n = (p, v)) (hp : p) : Value.int k (k.wrap n) = conc σ v := by
  have := fitI_sound σ (k := k) (n := n) (by rw [h]; exact hp)
  rw [this, h]

theorem run_eqGuard_int (P : Program) (w : World) (op : BinOp) (t : TypeId) (x y : Operand) (k k' : IntKind) (a b : Int) : (eqGuard op t x y (.int k a) (.int k' b)).run P w = .ok () w := by
  unfold eqGuard; cases op <;> simp
theorem run_eqGuard_string (P : Program) (w : World) (op : BinOp) (t : TypeId) (x y : Operand) (a b : ByteArray) : (eqGuard op t x y (.string a) (.string b)).run P w = .ok () w := by
  unfold eqGuard; cases op <;> simp
theorem run_eqGuard_slice (P : Program) (w : World) (op : BinOp) (t : TypeId) (x y : Operand) (a b : Option Addr) (n m c d : Nat) : (eqGuard op t x y (.slice a n c) (.slice b m d)).run P w = .ok () w := by
  unfold eqGuard; cases op <;> simp

theorem binI_sound {op : BinOp} {k : IntKind} {a b : Int} {p : Prop} {v : V} (σ : Nat → Loc) (h : binI op k a b = some (p, v)) (hp : p) (P : Program) (t : TypeId) (w : World) (h1 : op ≠ .shl) (h2 : op ≠ .shr) :
    (binOp op t (.int k a) (.int k b)).run P w = .ok (conc σ v) w := by
  cases op <;> simp only [binI, Option.some.injEq, Prod.mk.injEq, reduceCtorEq] at h <;> (try (obtain ⟨rfl, rfl⟩ := h))
  case add => simp [binOp, Op.intArith, fitI_sound' σ h hp]
  case sub => simp [binOp, Op.intArith, fitI_sound' σ h hp]
  case mul => simp [binOp, Op.intArith, fitI_sound' σ h hp]
  case quo => simp [binOp, Op.intDiv, hp.1, fitI_sound σ hp.2]
  case rem => simp [binOp, Op.intDiv, conc]; intro h0; exact absurd h0 hp
  case and => simp [binOp, Op.intBits, bits, conc]
  case or => simp [binOp, Op.intBits, bits, conc]
  case xor => simp [binOp, Op.intBits, bits, conc]
  case andNot => simp [binOp, Op.intBits, bits, conc]
  case eql => simp [binOp, Op.intCmp, conc]; rfl
  case neq => simp [binOp, Op.intCmp, conc, bne]; rfl
  case lss => simp [binOp, Op.intCmp, conc]
  case leq => simp [binOp, Op.intCmp, conc]
  case gtr => simp [binOp, Op.intCmp, conc]
  case geq => simp [binOp, Op.intCmp, conc]
  all_goals exact absurd rfl (by first | exact h1 | exact h2)

theorem shI_sound {op : BinOp} {k yk : IntKind} {a b : Int} {p : Prop} {v : V} (σ : Nat → Loc) (h : shI op k a b = some (p, v)) (hp : p) (P : Program) (t : TypeId) (w : World) :
    (binOp op t (.int k a) (.int yk b)).run P w = .ok (conc σ v) w := by
  cases op <;> simp only [shI, Option.some.injEq, Prod.mk.injEq, reduceCtorEq] at h <;> (try (obtain ⟨rfl, rfl⟩ := h))
  case shl => simp [binOp, Op.shift, Int.not_lt.2 hp.1, fitI_sound σ hp.2]
  case shr => simp [binOp, Op.shift, Int.not_lt.2 hp, conc]

theorem beqd (l m : List UInt8) : (l == m) = decide (l = m) := by rw [Bool.eq_iff_iff]; simp
theorem binS_sound {op : BinOp} {a b : ByteArray} {p : Prop} {v : V} (σ : Nat → Loc) (h : binS op a b = some (p, v)) (hp : p) (P : Program) (t : TypeId) (w : World) :
    (binOp op t (.string a) (.string b)).run P w = .ok (conc σ v) w := by
  cases op <;> simp only [binS, Option.some.injEq, Prod.mk.injEq, reduceCtorEq] at h <;> (try (obtain ⟨rfl, rfl⟩ := h))
  case add =>
    have h63 : ¬ ((a.size + b.size : Nat) : Int) > IntKind.i64.max := by
      have : IntKind.i64.max = 9223372036854775807 := by decide
      omega
    simp only [binOp, Op.stringOp, conc, if_neg h63, Sem.run_pure]
  case eql => simp [binOp, Op.stringOp, conc, beqd]
  case neq => simp [binOp, Op.stringOp, conc, beqd]

theorem binNil_sound {P : Program} {op : BinOp} {t : TypeId} {p : Prop} {b : Bool} {v : V} (σ : Nat → Loc) (h : binNil P op t b = some (p, v)) (a c : Option Addr) (n m d e : Nat) (hb : (a.isNone && c.isNone) = b) (ho : (a.isNone || c.isNone) = true) (w : World) :
    (binOp op t (.slice a n d) (.slice c m e)).run P w = .ok (conc σ v) w := by
  unfold binNil at h
  have hs : slTy P t = true := by
    cases hs : slTy P t
    · rw [hs] at h; cases h
    · rfl
  rw [hs] at h
  obtain ⟨el, hel⟩ : ∃ e, P.underlying t = some (.slice e) := by
    unfold slTy at hs
    split at hs
    · exact ⟨_, by assumption⟩
    · cases hs
  have key : (Op.equal t (.slice a n d) (.slice c m e)).run P w = .ok b w := by
    unfold Op.equal Op.maxDepth
    unfold Op.equalIn
    simp only [Sem.run_bind, run_underlying hel, Result.andThen_ok]
    cases a <;> cases c <;> simp_all
  cases op <;> simp only [Option.some.injEq, Prod.mk.injEq, reduceCtorEq] at h <;> (try (obtain ⟨_, rfl⟩ := h))
  case eql => simp [binOp, key, conc]
  case neq => simp [binOp, key, conc]
end Go.Sx
namespace Go.Sx
open Go.RowKit
def Mt (σ : Nat → Loc) (v : V) (y : Value) : Prop := v = .any ∨ y = conc σ v

theorem binB_sound {P : Program} {op : BinOp} {t : TypeId} {a b : Bool} {p : Prop} {v : V} (σ : Nat → Loc) (h : binB P op t a b = some (p, v)) (ox oy : Operand) (w : World) :
    ((do eqGuard op t ox oy (.bool a) (.bool b); binOp op t (.bool a) (.bool b)) : Sem Value).run P w = .ok (conc σ v) w := by
  unfold binB at h
  split at h
  · rename_i hu; cases h
    have e : (eqGuard .eql t ox oy (.bool a) (.bool b)).run P w = .ok () w := by unfold eqGuard; simp
    simp only [Sem.run_bind, e, Result.andThen_ok, run_eql_bool w t a b hu, conc]
  · rename_i hu; cases h
    have e : (eqGuard .neq t ox oy (.bool a) (.bool b)).run P w = .ok () w := by unfold eqGuard; simp
    simp only [Sem.run_bind, e, Result.andThen_ok, run_neq_bool w t a b hu, conc]
  · cases h

theorem binV_sound {P : Program} {op : BinOp} {t : TypeId} {x y : V} {p : Prop} {v : V} (σ : Nat → Loc) (h : binV P op t x y = some (p, v)) (hp : p) (ox oy : Operand) (w : World) :
    ((do eqGuard op t ox oy (conc σ x) (conc σ y); binOp op t (conc σ x) (conc σ y)) : Sem Value).run P w = .ok (conc σ v) w := by
  unfold binV at h
  split at h
  · split at h
    · simp only [conc, Sem.run_bind, run_eqGuard_int, Result.andThen_ok]; exact shI_sound σ h hp P t w
    · simp only [conc, Sem.run_bind, run_eqGuard_int, Result.andThen_ok]; exact shI_sound σ h hp P t w
    · rename_i h1 h2
      split at h
      · rename_i hk; subst hk
        simp only [conc, Sem.run_bind, run_eqGuard_int, Result.andThen_ok]; exact binI_sound σ h hp P t w h1 h2
      · cases h
  · simp only [conc, Sem.run_bind, run_eqGuard_string, Result.andThen_ok]; exact binS_sound σ h hp P t w
  · simp only [conc, Sem.run_bind, run_eqGuard_slice, Result.andThen_ok]; exact binNil_sound σ h _ _ _ _ _ _ rfl rfl w
  · simp only [conc, Sem.run_bind, run_eqGuard_slice, Result.andThen_ok]; exact binNil_sound σ h _ _ _ _ _ _ rfl rfl w
  · simp only [conc, Sem.run_bind, run_eqGuard_slice, Result.andThen_ok]; exact binNil_sound σ h _ _ _ _ _ _ rfl rfl w
  · simp only [conc]; exact binA_sound σ h hp ox oy w
  · simp only [conc]; exact binB_sound σ h ox oy w
  · cases h

theorem unV_sound {P : Program} {op : UnOp} {x : V} {p : Prop} {v : V} (σ : Nat → Loc) (h : unV op x = some (p, v)) (hp : p) (w : World) : (Op.unary op (conc σ x)).run P w = .ok (conc σ v) w := by
  unfold unV at h
  split at h
  · split at h
    · simp only [Option.some.injEq] at h
      simp only [conc, Op.unary, Op.intArith, Sem.run_pure, fitI_sound' σ h hp]
    · cases h
  · split at h
    · simp only [Option.some.injEq, Prod.mk.injEq] at h
      obtain ⟨rfl, rfl⟩ := h
      simp [conc, Op.unary]
    · cases h
  · cases h

theorem convV_sound {P : Program} {src dst : TypeId} {x : V} {p : Prop} {v : V} (σ : Nat → Loc) (h : convV P src dst x = some (p, v)) (hp : p) (w : World) :
    (convert src dst (conc σ x)).run P w = .ok (conc σ v) w := by
  unfold convV at h
  split at h
  · split at h
    · rename_i hd hu
      simp only [Option.some.injEq] at h
      simp only [conc, convert, Sem.run_bind, run_underlying hd, run_underlying hu, Result.andThen_ok, Conv.intToInt, Sem.run_pure, fitI_sound' σ h hp]
    · cases h
  · split at h
    · rename_i hd hu
      simp only [Option.some.injEq, Prod.mk.injEq] at h
      obtain ⟨rfl, rfl⟩ := h
      simp only [conc, convert, Sem.run_bind, run_underlying hd, run_underlying hu, Result.andThen_ok, Sem.run_pure]
    · cases h
  · cases h
end Go.Sx
namespace Go.Sx
open Go.RowKit

theorem szo_info {P : Program} {t : TypeId} {n : Nat} (h : szo P t = some n) : ∃ i, P.info? t = some i ∧ i.size = n := by
  unfold szo at h
  cases hi : P.info? t with
  | none => rw [hi] at h; cases h
  | some i => rw [hi] at h; exact ⟨i, rfl, by simpa using h⟩
theorem run_szo {P : Program} {t : TypeId} {n : Nat} (h : szo P t = some n) (w : World) : (sizeOf t).run P w = .ok n w := by
  obtain ⟨i, hi, rfl⟩ := szo_info h
  simp [sizeOf, typeInfo, hi]
theorem run_aggo {P : Program} {t : TypeId} {b : Bool} (h : aggo P t = some b) (w : World) : (isAgg t).run P w = .ok b w := by
  unfold aggo at h
  unfold isAgg
  split at h
  · rename_i hu; cases h; simp [run_underlying hu]
  · rename_i hu; cases h; simp [run_underlying hu]
  · rename_i d h1 h2 hu
    cases h
    simp only [Sem.run_bind, run_underlying hu, Result.andThen_ok]
    rfl
  · cases h

theorem concs_seg (σ : Nat → Loc) (cs : List V) (off n : Nat) : concs σ (seg cs off n) = ((concs σ cs).drop off).take n := by
  simp [seg, concs_eq, List.map_take, List.map_drop]
theorem cel_mt (σ : Nat → Loc) (cs : List V) (i : Nat) (h : i < cs.length) : (concs σ cs)[i]? = some (conc σ (cel cs i)) := by
  rw [concs_get, cel, nth_eq, List.getElem?_eq_getElem h]; rfl

theorem partV_sound {P : Program} {t : TypeId} {cs : List V} {off : Nat} {p : Prop} {v : V} (σ : Nat → Loc) (h : partV P t cs off = some (p, v)) (hp : p) (w : World) :
    (part t (concs σ cs).toArray off).run P w = .ok (conc σ v) w := by
  unfold partV at h
  split at h
  · rename_i n ha hs
    simp only [Option.some.injEq, Prod.mk.injEq] at h
    obtain ⟨rfl, rfl⟩ := h
    simp only [part, Sem.run_bind, run_aggo ha, Result.andThen_ok, if_true, run_szo hs, Sem.run_pure, conc]
    congr 2
    simp [concs_seg, List.extract_eq_take_drop]
  · rename_i n ha hs
    simp only [Option.some.injEq, Prod.mk.injEq] at h
    obtain ⟨rfl, rfl⟩ := h
    simp only [part, Sem.run_bind, run_aggo ha, Result.andThen_ok, Bool.false_eq_true, if_false]
    have := cel_mt σ cs off hp
    simp [this]
  · cases h

theorem addr_add (b o n : Nat) : Addr.add ⟨b, o, none⟩ n = ⟨b, o + n, none⟩ := by
  unfold Addr.add
  split
  · rename_i h; subst h; rfl
  · rfl

theorem fieldOf_some {P : Program} {t : TypeId} {f : Nat} {x : Field} (h : fieldOf P t f = some x) : ∃ fs, P.underlying t = some (.struct fs) ∧ fs[f]? = some x := by
  unfold fieldOf at h
  split at h
  · rename_i fs hu; exact ⟨fs, hu, h⟩
  · cases h

theorem fieldAddrV_sound {P : Program} {t : TypeId} {f : Nat} {x : V} {p : Prop} {v : V} (σ : Nat → Loc) (h : fieldAddrV P t f x = some (p, v)) (w : World) :
    (Instr.fieldAt t (conc σ x) f).run P w = .ok (conc σ v) w := by
  unfold fieldAddrV at h
  split at h
  · split at h
    · rename_i i off o ho
      simp only [Option.some.injEq, Prod.mk.injEq] at h
      obtain ⟨_, rfl⟩ := h
      unfold foff at ho
      obtain ⟨fl, hfl, ho⟩ := Option.bind_eq_some_iff.1 ho
      split at ho
      · rename_i n hs
        cases ho
        obtain ⟨fs, hu, hf⟩ := fieldOf_some hfl
        simp [Instr.fieldAt, run_underlying hu, hf, conc, Instr.sureAddr, fieldPlace, run_szo hs, addr_add, Nat.add_assoc]
      · cases ho
    · cases h
  · cases h

theorem fieldV_sound {P : Program} {t : TypeId} {f : Nat} {x : V} {p : Prop} {v : V} (σ : Nat → Loc) (h : fieldV P t f x = some (p, v)) (hp : p) (w : World) :
    (Instr.field t (conc σ x) f).run P w = .ok (conc σ v) w := by
  unfold fieldV at h
  split at h
  · split at h
    · rename_i cs ty o ho
      unfold ftyp at ho
      obtain ⟨fl, hfl, ho⟩ := Option.map_eq_some_iff.1 ho
      cases ho
      obtain ⟨fs, hu, hf⟩ := fieldOf_some hfl
      simp [Instr.field, run_underlying hu, hf, conc, asAgg, partV_sound σ h hp]
    · cases h
  · cases h

theorem rowo_some {P : Program} {t : TypeId} {b : Bool} {n z : Nat} (h : rowo P t = some (b, n, z)) : (b = true ∧ ∃ e, P.underlying t = some (.array n e) ∧ szo P e = some z) ∨ (b = false ∧ ∃ e, P.underlying t = some (.slice e) ∧ szo P e = some z) := by
  unfold rowo at h
  split at h
  · rename_i m e hu
    obtain ⟨z', hz, h⟩ := Option.map_eq_some_iff.1 h
    cases h; exact .inl ⟨rfl, e, hu, hz⟩
  · rename_i e hu
    obtain ⟨z', hz, h⟩ := Option.map_eq_some_iff.1 h
    cases h; exact .inr ⟨rfl, e, hu, hz⟩
  · cases h

theorem indexAddrV_sound {P : Program} {t : TypeId} {x ix : V} {p : Prop} {v : V} (σ : Nat → Loc) (h : indexAddrV P t x ix = some (p, v)) (hp : p) (w : World) :
    (Instr.indexAt t (conc σ x) (conc σ ix)).run P w = .ok (conc σ v) w := by
  unfold indexAddrV at h
  split at h
  · split at h
    · rename_i i off k n len z hr
      simp only [Option.some.injEq, Prod.mk.injEq] at h
      obtain ⟨rfl, rfl⟩ := h
      rcases rowo_some hr with ⟨_, e, hu, hz⟩ | ⟨h0, _⟩
      · simp [Instr.indexAt, conc, asIntOf, run_underlying hu, Instr.sureAddr, hp.1, hp.2, run_szo hz, addr_add, Nat.add_assoc]
      · cases h0
    · cases h
  · split at h
    · rename_i i off len c k n len' z hr
      simp only [Option.some.injEq, Prod.mk.injEq] at h
      obtain ⟨rfl, rfl⟩ := h
      rcases rowo_some hr with ⟨h0, _⟩ | ⟨_, e, hu, hz⟩
      · cases h0
      · simp [Instr.indexAt, conc, asIntOf, run_underlying hu, hp.1, hp.2, run_szo hz, addr_add, Nat.add_assoc]
    · cases h
  · cases h

theorem indexV_sound {P : Program} {t : TypeId} {x ix : V} {p : Prop} {v : V} (σ : Nat → Loc) (h : indexV P t x ix = some (p, v)) (hp : p) (w : World) :
    (Instr.index t (conc σ x) (conc σ ix)).run P w = .ok (conc σ v) w := by
  unfold indexV at h
  split at h
  · split at h
    · rename_i cs k n len e z he
      unfold etyp at he
      split at he
      · rename_i m e' hu
        obtain ⟨z', hz, he⟩ := Option.map_eq_some_iff.1 he
        cases he
        obtain ⟨⟨q, u⟩, hr, h⟩ := Option.map_eq_some_iff.1 h
        cases h
        simp [Instr.index, conc, asIntOf, run_underlying hu, hp.1.1, hp.1.2, run_szo hz, partV_sound σ hr hp.2]
      · cases he
    · cases h
  · split at h
    · rename_i s k n _ hu
      simp only [Option.some.injEq, Prod.mk.injEq] at h
      obtain ⟨rfl, rfl⟩ := h
      have hlt : n.toNat < s.size := by omega
      have hg : s[n.toNat]? = some s[n.toNat] := getElem?_pos s n.toNat hlt
      have hl : s.data.toList[n.toNat]? = some s[n.toNat] := by
        rw [List.getElem?_eq_getElem (by simpa using hlt)]; rfl
      simp only [Instr.index, conc, asIntOf, Sem.run_bind, Sem.run_pure, Result.andThen_ok, run_underlying hu, hp.1, if_true, hg, hl, Option.getD_some]
    · cases h
  · cases h

theorem extractV_sound {P : Program} {i : Nat} {x : V} {p : Prop} {v : V} (σ : Nat → Loc) (h : extractV i x = some (p, v)) (hp : p) (w : World) :
    (Instr.extract (conc σ x) i).run P w = .ok (conc σ v) w := by
  unfold extractV at h
  split at h
  · simp only [Option.some.injEq, Prod.mk.injEq] at h
    obtain ⟨rfl, rfl⟩ := h
    have := cel_mt σ _ i hp
    simp only [Instr.extract, conc]
    simp [this, cel]
  · cases h

theorem pickV_mt {σ : Nat → Loc} {b : Bool} {x y : V} {X Y : Value} (hx : Mt σ x X) (hy : Mt σ y Y) : Mt σ (pickV b x y) (if b then X else Y) := by
  unfold pickV
  split
  · rcases hx with hx | hx
    · cases hx
    · rcases hy with hy | hy
      · cases hy
      · right; subst hx; subst hy; cases b <;> simp [conc]
  · cases b
    · simpa using hy
    · simpa using hx

theorem lenV_sound {P : Program} {t ty : TypeId} {x : V} {p : Prop} {v : V} (σ : Nat → Loc) (h : lenV P t x = some (p, v)) (w : World) :
    (Builtin.len_ #[t] ty #[conc σ x]).run P w = .ok (conc σ v) w := by
  have sl : ∀ (a : Option Addr) (n c : Nat), slTy P t = true → (Builtin.len_ #[t] ty #[.slice a n c]).run P w = .ok (.int .i64 n) w := by
    intro a n c hs
    unfold slTy at hs
    split at hs
    · rename_i e hu
      simp [Builtin.len_, run_underlying hu, goInt]
    · cases hs
  unfold lenV at h
  split at h
  · split at h
    · simp only [Option.some.injEq, Prod.mk.injEq] at h
      obtain ⟨_, rfl⟩ := h
      exact sl _ _ _ (by assumption)
    · cases h
  · split at h
    · simp only [Option.some.injEq, Prod.mk.injEq] at h
      obtain ⟨_, rfl⟩ := h
      exact sl _ _ _ (by assumption)
    · cases h
  · split at h
    · simp only [Option.some.injEq, Prod.mk.injEq] at h
      obtain ⟨_, rfl⟩ := h
      exact sl _ _ _ (by assumption)
    · cases h
  · split at h
    · rename_i hu
      simp only [Option.some.injEq, Prod.mk.injEq] at h
      obtain ⟨_, rfl⟩ := h
      simp [Builtin.len_, run_underlying hu, goInt, conc]
    · cases h
  · cases h

theorem capV_sound {P : Program} {t ty : TypeId} {x : V} {p : Prop} {v : V} (σ : Nat → Loc) (h : capV P t x = some (p, v)) (w : World) :
    (Builtin.cap_ #[t] ty #[conc σ x]).run P w = .ok (conc σ v) w := by
  have sl : ∀ (a : Option Addr) (n c : Nat), slTy P t = true → (Builtin.cap_ #[t] ty #[.slice a n c]).run P w = .ok (.int .i64 c) w := by
    intro a n c hs
    unfold slTy at hs
    split at hs
    · rename_i e hu
      simp [Builtin.cap_, run_underlying hu, goInt]
    · cases hs
  unfold capV at h
  split at h
  · split at h
    · simp only [Option.some.injEq, Prod.mk.injEq] at h
      obtain ⟨_, rfl⟩ := h
      exact sl _ _ _ (by assumption)
    · cases h
  · split at h
    · simp only [Option.some.injEq, Prod.mk.injEq] at h
      obtain ⟨_, rfl⟩ := h
      exact sl _ _ _ (by assumption)
    · cases h
  · cases h

theorem max2V_sound {P : Program} {mx : Bool} {x y : V} {p : Prop} {v : V} (σ : Nat → Loc) (h : max2V mx x y = some (p, v)) (at_ : Array TypeId) (ty : TypeId) (w : World) :
    (if mx then Builtin.max_ at_ ty #[conc σ x, conc σ y] else Builtin.min_ at_ ty #[conc σ x, conc σ y]).run P w = .ok (conc σ v) w := by
  unfold max2V at h
  split at h
  · simp only [Option.some.injEq, Prod.mk.injEq] at h
    obtain ⟨_, rfl⟩ := h
    cases mx <;> simp [Builtin.max_, Builtin.max2, Builtin.min_, Builtin.min2, conc]
  · cases h

theorem Mt.ne {σ : Nat → Loc} {v : V} {y : Value} (h : Mt σ v y) (hv : v ≠ .any) : y = conc σ v := h.resolve_left hv

theorem pv_sound {P : Program} {o : Oper} {ρ : Operand → V} {p : Prop} {v : V} (σ : Nat → Loc) (h : pv P ρ o.op = some (p, v)) (hp : p) {a : Act} (he : ∀ x, Mt σ (ρ x) (a.eval x)) :
    ∃ y, Mt σ v y ∧ ∀ w, (execOp a.eval o).run P w = .ok (.value y) w := by
  unfold pv at h
  unfold execOp
  split at h <;> first | (cases h; done) | (rename_i ho; rw [ho]; dsimp only)
  · simp only [Option.some.injEq, Prod.mk.injEq] at h; obtain ⟨_, rfl⟩ := h
    exact ⟨_, he _, fun w => rfl⟩
  · simp only [Option.some.injEq, Prod.mk.injEq] at h; obtain ⟨_, rfl⟩ := h
    exact ⟨_, he _, fun w => rfl⟩
  · rename_i c x y
    unfold pickB at h
    split at h
    · rename_i b hb
      simp only [Option.some.injEq, Prod.mk.injEq] at h; obtain ⟨_, rfl⟩ := h
      have hc := (he c).ne (by rw [hb]; exact fun h => nomatch h)
      rw [hb] at hc
      refine ⟨_, pickV_mt (he x) (he y), fun w => ?_⟩
      simp [hc, conc, asBool]
    · cases h
  · rename_i x
    unfold nilV at h
    split at h
    · rename_i i off hb
      simp only [Option.some.injEq, Prod.mk.injEq] at h; obtain ⟨_, rfl⟩ := h
      have hc := (he x).ne (by rw [hb]; exact fun h => nomatch h)
      rw [hb] at hc
      refine ⟨conc σ (.p i off), .inr rfl, fun w => ?_⟩
      simp [hc, conc]
    · rename_i i off hb
      simp only [Option.some.injEq, Prod.mk.injEq] at h; obtain ⟨_, rfl⟩ := h
      have hc := (he x).ne (by rw [hb]; exact fun h => nomatch h)
      rw [hb] at hc
      refine ⟨conc σ (.f i off), .inr rfl, fun w => ?_⟩
      simp [hc, conc]
    · cases h
  · rename_i op t x y yt
    have hx : ρ x ≠ .any := by intro e; rw [e] at h; simp [binV] at h
    have hy : ρ y ≠ .any := by intro e; rw [e] at h; unfold binV at h; split at h <;> simp_all
    refine ⟨conc σ v, .inr rfl, fun w => ?_⟩
    have := binV_sound σ h hp x y w
    rw [(he x).ne hx, (he y).ne hy]
    simp only [Sem.run_bind] at this ⊢
    rw [this]
    simp
  · rename_i op t x
    have hx : ρ x ≠ .any := by intro e; rw [e] at h; simp [unV] at h
    refine ⟨conc σ v, .inr rfl, fun w => ?_⟩
    rw [(he x).ne hx]; simp [unV_sound σ h hp w]
  · rename_i s d x
    have hx : ρ x ≠ .any := by intro e; rw [e] at h; simp [convV] at h
    refine ⟨conc σ v, .inr rfl, fun w => ?_⟩
    rw [(he x).ne hx]; simp [convV_sound σ h hp w]
  · rename_i t x f
    have hx : ρ x ≠ .any := by intro e; rw [e] at h; simp [fieldAddrV] at h
    refine ⟨conc σ v, .inr rfl, fun w => ?_⟩
    rw [(he x).ne hx]; simp [fieldAddrV_sound σ h w]
  · rename_i t x f
    have hx : ρ x ≠ .any := by intro e; rw [e] at h; simp [fieldV] at h
    refine ⟨conc σ v, .inr rfl, fun w => ?_⟩
    rw [(he x).ne hx]; simp [fieldV_sound σ h hp w]
  · rename_i t x i
    have hx : ρ x ≠ .any := by intro e; rw [e] at h; simp [indexAddrV] at h
    have hi : ρ i ≠ .any := by intro e; rw [e] at h; unfold indexAddrV at h; split at h <;> simp_all
    refine ⟨conc σ v, .inr rfl, fun w => ?_⟩
    rw [(he x).ne hx, (he i).ne hi]; simp [indexAddrV_sound σ h hp w]
  · rename_i t x i
    have hx : ρ x ≠ .any := by intro e; rw [e] at h; simp [indexV] at h
    have hi : ρ i ≠ .any := by intro e; rw [e] at h; unfold indexV at h; split at h <;> simp_all
    refine ⟨conc σ v, .inr rfl, fun w => ?_⟩
    rw [(he x).ne hx, (he i).ne hi]; simp [indexV_sound σ h hp w]
  · rename_i x i
    have hx : ρ x ≠ .any := by intro e; rw [e] at h; simp [extractV] at h
    refine ⟨conc σ v, .inr rfl, fun w => ?_⟩
    rw [(he x).ne hx]; simp [extractV_sound σ h hp w]
  · rename_i x t
    have hx : ρ x ≠ .any := by intro e; rw [e] at h; simp [lenV] at h
    refine ⟨conc σ v, .inr rfl, fun w => ?_⟩
    simp [resolve, invoke, builtin, (he x).ne hx, lenV_sound σ h w]
  · rename_i x t
    have hx : ρ x ≠ .any := by intro e; rw [e] at h; simp [capV] at h
    refine ⟨conc σ v, .inr rfl, fun w => ?_⟩
    simp [resolve, invoke, builtin, (he x).ne hx, capV_sound σ h w]
  · rename_i x y t
    have hx : ρ x ≠ .any := by intro e; rw [e] at h; simp [max2V] at h
    have hy : ρ y ≠ .any := by intro e; rw [e] at h; unfold max2V at h; split at h <;> simp_all
    refine ⟨conc σ v, .inr rfl, fun w => ?_⟩
    have := max2V_sound (P := P) σ h t o.type w
    simp only [if_true] at this
    simp [resolve, invoke, builtin, (he x).ne hx, (he y).ne hy, this]
  · rename_i x y t
    have hx : ρ x ≠ .any := by intro e; rw [e] at h; simp [max2V] at h
    have hy : ρ y ≠ .any := by intro e; rw [e] at h; unfold max2V at h; split at h <;> simp_all
    refine ⟨conc σ v, .inr rfl, fun w => ?_⟩
    have := max2V_sound (P := P) σ h t o.type w
    simp only [Bool.false_eq_true, if_false] at this
    simp [resolve, invoke, builtin, (he x).ne hx, (he y).ne hy, this]
end Go.Sx
namespace Go.Sx
open Go.RowKit

theorem fitI_lt (m : Nat) (k : IntKind) (n : Int) : (fitI k n).2.lt m := by unfold fitI; cases k <;> rfl
theorem fitI_lt' {k : IntKind} {m : Int} {p : Prop} {v : V} (h : fitI k m = (p, v)) (n : Nat) : v.lt n := by
  have := fitI_lt n k m
  rw [h] at this
  exact this
theorem lts_mem {n : Nat} {l : List V} (h : lts n l) {x : V} (hx : x ∈ l) : V.lt n x := (lts_iff n l).1 h x hx
theorem nth_lt {n : Nat} {l : List V} (h : lts n l) (i : Nat) : V.lt n (nth l i) := by
  rw [nth_eq]
  cases hi : l[i]? with
  | none => exact trivial
  | some x => exact lts_mem h (List.mem_of_getElem? hi)
theorem all_seg {l : List V} (h : l.all V.one = true) (o m : Nat) : (seg l o m).all V.one = true :=
  List.all_eq_true.2 fun x hx => List.all_eq_true.1 h x (List.mem_of_mem_drop (List.mem_of_mem_take hx))
theorem lts_seg {n : Nat} {l : List V} (h : lts n l) (o m : Nat) : lts n (seg l o m) :=
  (lts_iff n _).2 fun x hx => lts_mem h (List.mem_of_mem_drop (List.mem_of_mem_take hx))
theorem partV_lt {P : Program} {t : TypeId} {cs : List V} {off n : Nat} {p : Prop} {v : V} (h : partV P t cs off = some (p, v)) (hc : V.lt n (.a cs)) : v.lt n := by
  unfold partV at h
  split at h
  · cases h; exact ⟨lts_seg hc.1 _ _, all_seg hc.2 _ _⟩
  · cases h; exact nth_lt hc.1 _
  · cases h
theorem binI_lt {op : BinOp} {k : IntKind} {a b : Int} {n : Nat} {p : Prop} {v : V} (h : binI op k a b = some (p, v)) : v.lt n := by
  cases op <;> simp only [binI, Option.some.injEq, Prod.mk.injEq, reduceCtorEq] at h
  case add => have := fitI_lt n k (a + b); rw [h] at this; exact this
  case sub => have := fitI_lt n k (a - b); rw [h] at this; exact this
  case mul => have := fitI_lt n k (a * b); rw [h] at this; exact this
  case quo => obtain ⟨_, rfl⟩ := h; exact fitI_lt _ _ _
  all_goals (obtain ⟨_, rfl⟩ := h; rfl)
theorem binV_lt {P : Program} {op : BinOp} {t : TypeId} {x y : V} {n : Nat} {p : Prop} {v : V} (h : binV P op t x y = some (p, v)) : v.lt n := by
  unfold binV at h
  split at h
  · split at h
    · simp only [shI, Option.some.injEq, Prod.mk.injEq] at h; obtain ⟨_, rfl⟩ := h; exact fitI_lt _ _ _
    · simp only [shI, Option.some.injEq, Prod.mk.injEq] at h; obtain ⟨_, rfl⟩ := h; rfl
    · split at h
      · exact binI_lt h
      · cases h
  · cases op <;> simp only [binS, Option.some.injEq, Prod.mk.injEq, reduceCtorEq] at h <;> (obtain ⟨_, rfl⟩ := h; rfl)
  all_goals first | (cases h; done) | (unfold binA at h; split at h <;> first | (cases h; done) | (cases h; rfl)) | (unfold binB at h; split at h <;> first | (cases h; done) | (cases h; rfl)) | (unfold binNil at h; split at h <;> first | (cases h; done) | (cases h; rfl))

theorem pv_lt {P : Program} {o : Op} {ρ : Operand → V} {p : Prop} {v : V} (h : pv P ρ o = some (p, v)) {n : Nat} (hl : ∀ x, V.lt n (ρ x)) : v.lt n := by
  unfold pv at h
  split at h <;> first | (cases h; done) | skip
  · cases h; exact hl _
  · cases h; exact hl _
  · unfold pickB at h
    split at h
    · cases h
      rename_i c x y _ b _
      unfold pickV
      split
      · rfl
      · split
        · exact hl _
        · exact hl _
    · cases h
  · rename_i x
    have := hl x
    unfold nilV at h
    split at h
    · rename_i hb; rw [hb] at this; cases h; exact this
    · rename_i hb; rw [hb] at this; cases h; exact this
    · cases h
  · exact binV_lt h
  · unfold unV at h
    split at h
    · split at h
      · simp only [Option.some.injEq] at h
        exact fitI_lt' h n
      · cases h
    · split at h
      · cases h; rfl
      · cases h
    · cases h
  · unfold convV at h
    split at h
    · split at h
      · simp only [Option.some.injEq] at h
        exact fitI_lt' h n
      · cases h
    · split at h
      · cases h; rfl
      · cases h
    · cases h
  · rename_i t x f
    have := hl x
    unfold fieldAddrV at h
    split at h
    · rename_i hb; rw [hb] at this
      split at h
      · cases h; exact this
      · cases h
    · cases h
  · rename_i t x f
    have := hl x
    unfold fieldV at h
    split at h
    · rename_i hb; rw [hb] at this
      split at h
      · exact partV_lt h this
      · cases h
    · cases h
  · rename_i t x i
    have := hl x
    unfold indexAddrV at h
    split at h
    · rename_i hb _; rw [hb] at this
      split at h
      · cases h; exact this
      · cases h
    · rename_i hb _; rw [hb] at this
      split at h
      · cases h; exact this
      · cases h
    · cases h
  · rename_i t x i
    have := hl x
    unfold indexV at h
    split at h
    · rename_i hb _; rw [hb] at this
      split at h
      · obtain ⟨⟨q, u⟩, hr, h⟩ := Option.map_eq_some_iff.1 h
        cases h
        exact partV_lt hr this
      · cases h
    · split at h
      · cases h; rfl
      · cases h
    · cases h
  · rename_i x i
    have := hl x
    unfold extractV at h
    split at h
    · rename_i hb; rw [hb] at this; cases h; exact nth_lt this _
    · cases h
  · unfold lenV at h
    split at h
    · split at h <;> cases h; rfl
    · split at h <;> cases h; rfl
    · split at h <;> cases h; rfl
    · split at h <;> cases h; rfl
    · cases h
  · unfold capV at h
    split at h
    · split at h <;> cases h; rfl
    · split at h <;> cases h; rfl
    · cases h
  · unfold max2V at h
    split at h <;> cases h; rfl
  · unfold max2V at h
    split at h <;> cases h; rfl
end Go.Sx
namespace Go.Sx
open Go.RowKit

theorem one_conc {σ : Nat → Loc} {c : V} (h : c.one = true) : (conc σ c).oneCell' = true := by
  cases c <;> first | exact h | rfl | cases h

def ldV (P : Program) (hp : List Blk) (t : TypeId) : V → Option (Prop × V)
  | .p i off => match hp[i]?, aggo P t, szo P t with
    | some b, some true, some n => some (b.k.live = true ∧ off + n ≤ b.cells.length, .a (seg b.cells off n))
    | some b, some false, some _ => some (b.k.live = true ∧ off < b.cells.length, cel b.cells off)
    | _, _, _ => none
  | _ => none

theorem ldV_sound {P : Program} {hp : List Blk} {t : TypeId} {x : V} {p : Prop} {v : V} {σ : Nat → Loc} {w : World} (hr : HRel σ hp w) (h : ldV P hp t x = some (p, v)) (hq : p) :
    (Instr.loadAt t (conc σ x)).run P w = .ok (conc σ v) w := by
  unfold ldV at h
  split at h
  · split at h
    · rename_i i off _ _ _ b n hb ha hs
      simp only [Option.some.injEq, Prod.mk.injEq] at h
      obtain ⟨rfl, rfl⟩ := h
      have hlen : (concs σ (seg b.cells off n)).length = n := by
        rw [concs_length]; unfold seg; rw [List.length_take, List.length_drop]; omega
      have hc := run_loadCells_list (P := P) w ⟨(σ i).blk, (σ i).off + off, none⟩ (concs σ (seg b.cells off n)) (fun j u hu => by
        rw [addr_add, Nat.add_assoc]
        refine (hr.holds i b hb).cell hq.1 ?_
        rw [concs_seg, List.getElem?_take] at hu
        split at hu
        · rw [List.getElem?_drop] at hu; exact hu
        · cases hu)
      rw [hlen] at hc
      simp [Instr.loadAt, conc, Instr.sureAddr, loadVar, run_aggo ha, run_szo hs, hc]
    · rename_i i off _ _ _ b n hb ha hs
      simp only [Option.some.injEq, Prod.mk.injEq] at h
      obtain ⟨rfl, rfl⟩ := h
      have := (hr.holds i b hb).cell hq.1 (cel_mt σ b.cells off hq.2)
      simp only [Instr.loadAt, conc, Instr.sureAddr, loadVar, Sem.run_bind, Sem.run_pure, Result.andThen_ok, run_aggo ha, Bool.false_eq_true, if_false, run_load]
      simp [this]
    · cases h
  · cases h

theorem ldV_lt {P : Program} {hp : List Blk} {t : TypeId} {x : V} {p : Prop} {v : V} {σ : Nat → Loc} {w : World} (hr : HRel σ hp w) (h : ldV P hp t x = some (p, v)) : v.lt hp.length := by
  unfold ldV at h
  split at h
  · split at h
    · rename_i i off _ _ _ b n hb ha hs
      cases h
      refine ⟨lts_seg ((lts_iff _ _).2 fun c hc => (hr.wf i b hb c hc).1) _ _, all_seg (List.all_eq_true.2 fun c hc => (hr.wf i b hb c hc).2) _ _⟩
    · rename_i i off _ _ _ b n hb ha hs
      cases h
      exact nth_lt ((lts_iff _ _).2 fun c hc => (hr.wf i b hb c hc).1) _
    · cases h
  · cases h

def cellsL : V → List V
  | .a cs => cs
  | x => [x]
def wr (cs : List V) (off : Nat) (ns : List V) : List V := cs.take off ++ ns ++ cs.drop (off + ns.length)

def V.solid : V → Bool
  | .any => false
  | .t _ => false
  | _ => true

theorem cellsL_conc (σ : Nat → Loc) {x : V} (hs : x.solid = true) (n : Nat) (hl : x.lt n) : (conc σ x).cells = (concs σ (cellsL x)).toArray := by
  cases x with
  | any => cases hs
  | t vs => cases hs
  | v y => simp only [conc, cellsL, concs]; cases y <;> first | rfl | cases hl
  | p i o => rfl
  | s i o l c => rfl
  | e i o c l z => rfl
  | a cs => rfl
  | f m cs => rfl
theorem cellsL_wf {x : V} (hs : x.solid = true) {n : Nat} (hl : x.lt n) : ∀ c ∈ cellsL x, V.lt n c ∧ c.one = true := by
  cases x with
  | any => cases hs
  | t vs => cases hs
  | v y => intro c hc; simp only [cellsL, List.mem_singleton] at hc; subst hc; exact ⟨hl, hl⟩
  | p i o => intro c hc; simp only [cellsL, List.mem_singleton] at hc; subst hc; exact ⟨hl, rfl⟩
  | e i o c' l z => intro c hc; simp only [cellsL, List.mem_singleton] at hc; subst hc; exact ⟨hl, rfl⟩
  | s i o l c' => intro c hc; simp only [cellsL, List.mem_singleton] at hc; subst hc; exact ⟨hl, rfl⟩
  | a cs => intro c hc; exact ⟨lts_mem hl.1 hc, List.all_eq_true.1 hl.2 c hc⟩
  | f m cs => intro c hc; simp only [cellsL, List.mem_singleton] at hc; subst hc; exact ⟨hl, rfl⟩

def zeroL (P : Program) (t : TypeId) : Option (List V) := (P.info? t).bind fun i => i.zero.bind fun z =>
  if z.cells.toList.all (·.oneCell') && z.cells.size == i.size then some (z.cells.toList.map .v) else none

theorem zeroL_some {P : Program} {t : TypeId} {zs : List V} (h : zeroL P t = some zs) :
    ∃ i z, P.info? t = some i ∧ i.zero = some z ∧ (∀ σ, z.cells = (concs σ zs).toArray) ∧ zs.length = i.size ∧ ∀ c ∈ zs, (∀ n, V.lt n c) ∧ c.one = true := by
  unfold zeroL at h
  obtain ⟨i, hi, h⟩ := Option.bind_eq_some_iff.1 h
  obtain ⟨z, hz, h⟩ := Option.bind_eq_some_iff.1 h
  split at h
  · rename_i hc
    cases h
    simp only [Bool.and_eq_true, beq_iff_eq] at hc
    refine ⟨i, z, hi, hz, fun σ => ?_, by simp [← hc.2], fun c hc' => ?_⟩
    · apply Array.ext'
      simp only [concs_eq, List.map_map]
      have : (conc σ ∘ V.v) = id := by funext x; rfl
      simp [this]
    · obtain ⟨y, hy, rfl⟩ := List.mem_map.1 hc'
      have := List.all_eq_true.1 hc.1 y hy
      exact ⟨fun _ => this, this⟩
  · cases h

theorem run_zeroL {P : Program} {t : TypeId} {zs : List V} (h : zeroL P t = some zs) (w : World) : ∃ z, (zeroValue t).run P w = .ok z w ∧ (∀ σ, z.cells = (concs σ zs).toArray) := by
  obtain ⟨i, z, hi, hz, hc, _⟩ := zeroL_some h
  exact ⟨z, by simp [zeroValue, typeInfo, hi, hz], hc⟩

section
variable {P : Program} {E : En} {σ : Nat → Loc} {s : St} {a : Act} {w : World}

theorem Rel.newFix (h : Rel E σ s a w) (cells : List V) (t : TypeId) (hwf : ∀ c ∈ cells, V.lt s.heap.length c ∧ c.one = true) :
    ∃ σ', (∀ i, i < s.heap.length → σ' i = σ i) ∧ σ' s.heap.length = ⟨w.heap.size, 0, 0⟩ ∧ Rel E σ' ⟨s.slots, s.heap ++ [⟨cells, t, .fix⟩]⟩ a (w.alloc (.cells (concs σ cells).toArray t)) := by
  refine ⟨upσ σ s.heap.length ⟨w.heap.size, 0, 0⟩, fun i hi => upσ_lt _ _ _ _ hi, upσ_same _ _ _, ?_⟩
  refine h.alloc ⟨cells, t, .fix⟩ (concs σ cells).toArray 0 hwf ?_
  show (_ ∧ _)
  rw [upσ_same]
  refine ⟨rfl, ?_⟩
  show (w.alloc (.cells (concs σ cells).toArray t)).heap[w.heap.size]? = _
  rw [heap_alloc_new]
  rw [concs_congr (σ := σ) (fun i hi => upσ_lt _ _ _ _ hi) cells ((lts_iff _ _).2 fun c hc => (hwf c hc).1)]

theorem Rel.newOwn (h : Rel E σ s a w) (cells : List V) (t : TypeId) (sz n : Nat) (hn : cells.length = n * sz) (hm : n ≤ maxLen) (hwf : ∀ c ∈ cells, V.lt s.heap.length c ∧ c.one = true) :
    ∃ σ', (∀ i, i < s.heap.length → σ' i = σ i) ∧ σ' s.heap.length = ⟨w.heap.size, 0, n⟩ ∧ Rel E σ' ⟨s.slots, s.heap ++ [⟨cells, t, .own sz⟩]⟩ a (w.alloc (.cells (concs σ cells).toArray t)) := by
  refine ⟨upσ σ s.heap.length ⟨w.heap.size, 0, n⟩, fun i hi => upσ_lt _ _ _ _ hi, upσ_same _ _ _, ?_⟩
  refine h.alloc ⟨cells, t, .own sz⟩ (concs σ cells).toArray n hwf ?_
  show (_ ∧ _)
  rw [upσ_same]
  refine ⟨rfl, (concs σ cells).toArray, n, heap_alloc_new w _, hn, Nat.le_refl _, by simp [concs_length, hn], hm, ?_⟩
  rw [concs_congr (σ := σ) (fun i hi => upσ_lt _ _ _ _ hi) cells ((lts_iff _ _).2 fun c hc => (hwf c hc).1)]
  rw [← hn]
  simp [concs_length, List.take_of_length_le]
end
end Go.Sx
namespace Go.Sx
open Go.RowKit

theorem wr_length {cs ns : List V} {off : Nat} (h : off + ns.length ≤ cs.length) : (wr cs off ns).length = cs.length := by
  unfold wr; simp only [List.length_append, List.length_take, List.length_drop]; omega
theorem concs_wr (σ : Nat → Loc) (cs ns : List V) (off : Nat) : concs σ (wr cs off ns) = (concs σ cs).take off ++ concs σ ns ++ (concs σ cs).drop (off + (concs σ ns).length) := by
  unfold wr; simp only [concs_append, concs_length]; simp [concs_eq, List.map_take, List.map_drop]
theorem wr_mem {cs ns : List V} {off : Nat} {c : V} (h : c ∈ wr cs off ns) : c ∈ cs ∨ c ∈ ns := by
  unfold wr at h
  rcases List.mem_append.1 h with h | h
  · rcases List.mem_append.1 h with h | h
    · exact .inl (List.mem_of_mem_take h)
    · exact .inr h
  · exact .inl (List.mem_of_mem_drop h)

theorem take_splice {α : Type} (l m : List α) (N off : Nat) (h : off + m.length ≤ N) (hN : N ≤ l.length) :
    (l.take off ++ m ++ l.drop (off + m.length)).take N = (l.take N).take off ++ m ++ (l.take N).drop (off + m.length) := by
  have e1 : (l.take off).length = off := by rw [List.length_take]; omega
  rw [List.take_append, List.take_append, e1, List.take_take, List.length_append, e1]
  rw [show min N off = off by omega, List.take_of_length_le (l := m) (by omega), List.take_take, show min off N = off by omega]
  rw [List.drop_take]

section
variable {P : Program} {E : En} {σ : Nat → Loc} {s : St} {a : Act} {w : World}

theorem run_storeCells_fr {P : Program} (g o : Nat) (t : TypeId) (fr : Nat × Nat) : ∀ (vs : List Value) (i : Nat) (cur : Array Value) (w : World), w.heap[g]? = some (.cells cur t fr) → cur.size ≤ fr.1 → o + i + vs.length ≤ cur.size → (∀ v ∈ vs, v.oneCell' = true) →
    (Go.storeCells ⟨g, o, none⟩ vs i).run P w = .ok () (w.setRow g (cur.toList.take (o + i) ++ vs ++ cur.toList.drop (o + i + vs.length)).toArray)
  | [], i, cur, w, hg, _, _, _ => by
    simp only [Go.storeCells, List.append_nil, List.length_nil, Nat.add_zero, List.take_append_drop, Array.toArray_toList]
    rw [setRow_self w g cur t fr hg]
    rfl
  | v :: rest, i, cur, w, hg, hfr, hl, h1 => by
    have hi : o + i < cur.size := by simp at hl; omega
    have hadd : (⟨g, o, none⟩ : Addr).add i = ⟨g, o + i, none⟩ := by unfold Addr.add; split <;> simp_all
    have hcell : w.cell? ⟨g, o + i, none⟩ = some cur[o + i] := by simp [World.cell?, hg, hi]
    have hfro : w.frozen? ⟨g, o + i, none⟩ = false := by
      obtain ⟨lo, hi2⟩ := fr
      simp only [World.frozen?, hg]
      simp only at hfr
      have : decide (lo ≤ o + i) = false := by simp; omega
      simp [this]
    have hst : (store ((⟨g, o, none⟩ : Addr).add i) v).run P w = .ok () (w.setRow g (cur.setIfInBounds (o + i) v)) := by
      rw [hadd, run_store P w _ v _ (h1 v (by simp)), hcell]
      simp [hfro, setCell_eq_setRow w g (o + i) cur t fr v hg]
    have ih := run_storeCells_fr (P := P) g o t fr rest (i + 1) (cur.setIfInBounds (o + i) v) (w.setRow g (cur.setIfInBounds (o + i) v)) (setRow_heap w g cur _ t _ hg) (by simpa using hfr) (by simp at hl ⊢; omega) (fun x hx => h1 x (by simp [hx]))
    simp only [Go.storeCells, Sem.run_bind, hst, Result.andThen_ok, ih, setRow_setRow]
    congr 3
    have e := list_seg_step cur.toList (o + i) v rest (by simp at hl ⊢; omega)
    simpa [Array.toList_setIfInBounds, Nat.add_assoc] using e
theorem Rel.storeCells (h : Rel E σ s a w) {i off : Nat} {b : Blk} (hb : s.heap[i]? = some b) (hm : b.k.mut = true) (ns : List V) (hfit : off + ns.length ≤ b.cells.length)
    (hwf : ∀ c ∈ ns, V.lt s.heap.length c ∧ c.one = true) :
    ∃ w', (Go.storeCells ⟨(σ i).blk, (σ i).off + off, none⟩ (concs σ ns)).run P w = .ok () w' ∧ Rel E σ ⟨s.slots, s.heap.set i { b with cells := wr b.cells off ns }⟩ a w' := by
  have h1 : ∀ v ∈ concs σ ns, v.oneCell' = true := by
    intro v hv
    rw [concs_eq] at hv
    obtain ⟨c, hc, rfl⟩ := List.mem_map.1 hv
    exact one_conc (hwf c hc).2
  have hwf' : ∀ c ∈ (wr b.cells off ns), V.lt s.heap.length c ∧ c.one = true := fun c hc => by
    rcases wr_mem hc with hc | hc
    · exact h.heap.wf i b hb c hc
    · exact hwf c hc
  have hold := h.heap.holds i b hb
  have fin : ∀ (cur : Array Value) (fr : Nat × Nat), w.heap[(σ i).blk]? = some (.cells cur b.elem fr) → ∀ new : Array Value, Holds σ (w.setRow (σ i).blk new) i { b with cells := wr b.cells off ns } →
      Rel E σ ⟨s.slots, s.heap.set i { b with cells := wr b.cells off ns }⟩ a (w.setRow (σ i).blk new) := by
    intro cur fr hg new hnew
    have hs : w.heap.size ≤ (w.setRow (σ i).blk new).heap.size := by simp
    have hother : ∀ k, k < w.heap.size → k ≠ (σ i).blk → (w.setRow (σ i).blk new).heap[k]? = w.heap[k]? := fun k _ hk => setRow_other w _ k _ hk
    exact h.write hb hm (h.heap.write hb hm hs hother hnew hwf') rfl rfl rfl hs hother
  unfold Holds at hold
  split at hold
  · rename_i hk
    obtain ⟨h0, hg⟩ := hold
    have hst := run_storeCells_at P (σ i).blk ((σ i).off + off) b.elem (concs σ ns) 0 _ w hg (by simp [concs_length, h0]; omega) h1
    refine ⟨_, hst, fin _ _ hg _ ?_⟩
    unfold Holds
    simp only [hk]
    refine ⟨h0, ?_⟩
    rw [setRow_heap w _ _ _ _ _ hg]
    simp [concs_wr, h0]
  · rename_i sz hk
    obtain ⟨h0, cur, n, hg, hn, hcap, hsz, hmax, htake⟩ := hold
    have hle : n * sz ≤ cur.size := by rw [hsz]; exact Nat.mul_le_mul_right _ hcap
    have hst := run_storeCells_at P (σ i).blk ((σ i).off + off) b.elem (concs σ ns) 0 _ w hg (by simp [concs_length, h0]; omega) h1
    refine ⟨_, hst, fin _ _ hg _ ?_⟩
    unfold Holds
    simp only [hk]
    refine ⟨h0, _, n, setRow_heap w _ _ _ _ _ hg, ?_, hcap, ?_, hmax, ?_⟩
    · rw [wr_length hfit]; exact hn
    · simp only [h0, Nat.zero_add, Nat.add_zero, List.size_toArray, List.length_append, List.length_take, List.length_drop, concs_length, Array.length_toList]
      omega
    · simp only [h0, Nat.zero_add, Nat.add_zero]
      rw [concs_wr, ← htake]
      have := take_splice cur.toList (concs σ ns) (n * sz) off (by rw [concs_length]; omega) (by simpa using hle)
      rw [this]
  · rename_i hk; rw [hk] at hm; cases hm
  · rename_i hk; rw [hk] at hm; cases hm
  · rename_i hk
    obtain ⟨h0, cur, fr, hg, hn, hfr, htake⟩ := hold
    have hst := run_storeCells_fr (P := P) (σ i).blk ((σ i).off + off) b.elem fr (concs σ ns) 0 _ w hg hfr (by simp [concs_length, h0]; omega) h1
    refine ⟨_, hst, fin _ _ hg _ ?_⟩
    unfold Holds
    simp only [hk]
    refine ⟨h0, _, fr, setRow_heap w _ _ _ _ _ hg, ?_, ?_, ?_⟩
    · rw [wr_length hfit]
      simp only [h0, Nat.zero_add, Nat.add_zero, List.size_toArray, List.length_append, List.length_take, List.length_drop, concs_length, Array.length_toList]
      omega
    · simp only [h0, Nat.zero_add, Nat.add_zero, List.size_toArray, List.length_append, List.length_take, List.length_drop, concs_length, Array.length_toList]
      omega
    · rw [wr_length hfit]
      simp only [h0, Nat.zero_add, Nat.add_zero]
      rw [concs_wr, ← htake]
      have := take_splice cur.toList (concs σ ns) b.cells.length off (by rw [concs_length]; omega) (by simpa using hn)
      rw [this]
  · rename_i hk; rw [hk] at hm; cases hm

def stV (P : Program) (hp : List Blk) (t : TypeId) (x : V) : V → Option (Prop × List Blk)
  | .p i off => match hp[i]?, szo P t with
    | some b, some n => some (b.k.mut = true ∧ x.solid = true ∧ (cellsL x).length = n ∧ off + (cellsL x).length ≤ b.cells.length, hp.set i { b with cells := wr b.cells off (cellsL x) })
    | _, _ => none
  | _ => none

theorem stV_sound (h : Rel E σ s a w) {t : TypeId} {x y : V} {p : Prop} {hp' : List Blk} (hs : stV P s.heap t x y = some (p, hp')) (hq : p) (hl : x.lt s.heap.length) :
    ∃ w', (Instr.storeAt t (conc σ y) (conc σ x)).run P w = .ok () w' ∧ Rel E σ ⟨s.slots, hp'⟩ a w' := by
  unfold stV at hs
  split at hs
  · split at hs
    · rename_i i off _ _ b n hb hn
      simp only [Option.some.injEq, Prod.mk.injEq] at hs
      obtain ⟨rfl, rfl⟩ := hs
      obtain ⟨hm, hsol, hlen, hfit⟩ := hq
      obtain ⟨w', hr, hrel⟩ := h.storeCells (P := P) hb hm (cellsL x) hfit (cellsL_wf hsol hl)
      refine ⟨w', ?_, hrel⟩
      have hsz : (conc σ x).cells.size = n := by rw [cellsL_conc σ hsol _ hl]; simp [concs_length, hlen]
      simp only [Instr.storeAt, conc, Instr.sureAddr, storeVar, Sem.run_bind, Sem.run_pure, Result.andThen_ok, run_szo hn, hsz, ne_eq, not_true_eq_false, if_false]
      rw [cellsL_conc σ hsol _ hl]
      exact hr
    · cases hs
  · cases hs
end

def zerosL (zs : List V) (n : Nat) : List V := (List.replicate n zs).flatten

theorem zerosL_length (zs : List V) (n : Nat) : (zerosL zs n).length = n * zs.length := by simp [zerosL]
theorem zerosL_mem {zs : List V} {n : Nat} {c : V} (h : c ∈ zerosL zs n) : c ∈ zs := by
  obtain ⟨l, hl, hc⟩ := List.mem_flatten.1 h
  rw [(List.mem_replicate.1 hl).2] at hc; exact hc
theorem zerosL_get (zs : List V) (n i : Nat) (h : i < n * zs.length) : (zerosL zs n)[i]? = zs[i % zs.length]? := by
  induction n generalizing i with
  | zero => simp at h
  | succ n ih =>
    have hz : 0 < zs.length := by rcases Nat.eq_zero_or_pos zs.length with h0 | h0 <;> simp_all
    simp only [zerosL, List.replicate_succ, List.flatten_cons]
    by_cases hi : i < zs.length
    · rw [List.getElem?_append_left hi, Nat.mod_eq_of_lt hi]
    · rw [List.getElem?_append_right (by omega)]
      have := ih (i - zs.length) (by rw [Nat.succ_mul] at h; omega)
      simp only [zerosL] at this
      rw [this, Nat.mod_eq_sub_mod (a := i) (by omega)]

theorem zerosL_conc (σ : Nat → Loc) (zs : List V) (n : Nat) (z : Array Value) (hz : z = (concs σ zs).toArray) : (Array.range (n * zs.length)).map (z[· % z.size]!) = (concs σ (zerosL zs n)).toArray := by
  subst hz
  apply Array.ext'
  apply List.ext_getElem?
  intro i
  simp only [Array.toList_map, Array.toList_range, List.getElem?_map]
  by_cases hi : i < n * zs.length
  · have hz : 0 < zs.length := by rcases Nat.eq_zero_or_pos zs.length with h0 | h0 <;> simp_all
    rw [List.getElem?_range hi, concs_get, zerosL_get zs n i hi]
    have hm : i % zs.length < zs.length := Nat.mod_lt _ hz
    simp [concs_eq, hm]
  · rw [List.getElem?_eq_none (by simp; omega), List.getElem?_eq_none (by simp [concs_length, zerosL_length]; omega)]
    rfl
end Go.Sx
namespace Go.Sx
open Go.RowKit

theorem fold_set (ns : List Value) : ∀ (k off : Nat) (cs : Array Value), off + k + ns.length ≤ cs.size →
    ((ns.zipIdx k).foldl (fun cs x => cs.setIfInBounds (off + x.2) x.1) cs).toList = cs.toList.take (off + k) ++ ns ++ cs.toList.drop (off + k + ns.length) := by
  induction ns with
  | nil => intro k off cs _; simp
  | cons v ns ih =>
    intro k off cs h
    simp only [List.length_cons] at h
    simp only [List.zipIdx_cons, List.foldl_cons]
    rw [ih (k + 1) off _ (by simp; omega)]
    have := list_seg_step cs.toList (off + k) v ns (by simpa using h)
    simp only [Array.toList_setIfInBounds, List.length_cons]
    rw [← this]
    congr 1

def fillV (place : Nat → Option (Nat × Nat)) : List V → List (Nat × V) → Option (Prop × List V)
  | cells, [] => some (True, cells)
  | cells, (i, x) :: r => match place i with
    | none => none
    | some (off, size) => (fillV place (wr cells off (cellsL x)) r).map fun q => ((x.solid = true ∧ (cellsL x).length = size ∧ off + (cellsL x).length ≤ cells.length) ∧ q.1, q.2)

theorem fillV_sound {place : Nat → Option (Nat × Nat)} (σ : Nat → Loc) (n : Nat) : ∀ (parts : List (Nat × V)) (pv : List (Nat × Value)) (cells cells' : List V) (p : Prop), fillV place cells parts = some (p, cells') → p →
    (∀ x ∈ parts, V.lt n x.2) → (parts.length = pv.length ∧ ∀ (j : Nat) (x : Nat × V) (y : Nat × Value), parts[j]? = some x → pv[j]? = some y → y.1 = x.1 ∧ Mt σ x.2 y.2) →
    Instr.fill place (concs σ cells).toArray pv = some (concs σ cells').toArray
  | [], [], cells, cells', p, h, _, _, _ => by
    simp only [fillV, Option.some.injEq, Prod.mk.injEq] at h
    obtain ⟨_, rfl⟩ := h
    rfl
  | [], _ :: _, _, _, _, _, _, _, hm => by simp at hm
  | _ :: _, [], _, _, _, _, _, _, hm => by simp at hm
  | (i, x) :: r, (i', y) :: r', cells, cells', p, h, hp, hl, hm => by
    have h0 := hm.2 0 (i, x) (i', y) rfl rfl
    simp only at h0
    obtain ⟨rfl, hy⟩ := h0
    unfold fillV at h
    split at h
    · cases h
    · rename_i off size hpl
      obtain ⟨⟨q1, q2⟩, hq, h⟩ := Option.map_eq_some_iff.1 h
      cases h
      obtain ⟨⟨hs, hlen, hfit⟩, hq1⟩ := hp
      have hxl := hl (i', x) (List.mem_cons_self ..)
      have hyx : y = conc σ x := hy.ne (by intro e; subst e; cases hs)
      subst hyx
      have hc := cellsL_conc σ hs n hxl
      have hsz : (conc σ x).cells.size = size := by rw [hc]; simp [concs_length, hlen]
      have ih := fillV_sound σ n r r' _ _ q1 hq hq1 (fun z hz => hl z (List.mem_cons_of_mem _ hz)) ⟨by have := hm.1; simp at this; exact this, fun j a b ha hb => hm.2 (j + 1) a b (by simpa using ha) (by simpa using hb)⟩
      simp only [Instr.fill, hpl, hsz]
      rw [if_neg (by simp [concs_length, ← hlen]; omega)]
      rw [← ih]
      congr 1
      apply Array.ext'
      have := fold_set (concs σ (cellsL x)) 0 off (concs σ cells).toArray (by simp [concs_length]; omega)
      rw [hc]
      simp only [Nat.add_zero] at this
      rw [concs_wr]
      rw [← Array.foldl_toList, Array.toList_zipIdx]
      exact this

theorem fillV_mem {place : Nat → Option (Nat × Nat)} : ∀ (parts : List (Nat × V)) (cells cells' : List V) (p : Prop), fillV place cells parts = some (p, cells') → p →
    (cells'.length = cells.length) ∧ ∀ c ∈ cells', c ∈ cells ∨ ∃ x ∈ parts, x.2.solid = true ∧ c ∈ cellsL x.2
  | [], cells, cells', p, h, _ => by
    simp only [fillV, Option.some.injEq, Prod.mk.injEq] at h
    obtain ⟨_, rfl⟩ := h
    exact ⟨rfl, fun c hc => .inl hc⟩
  | (i, x) :: r, cells, cells', p, h, hp => by
    unfold fillV at h
    split at h
    · cases h
    · rename_i off size hpl
      obtain ⟨⟨q1, q2⟩, hq, h⟩ := Option.map_eq_some_iff.1 h
      cases h
      obtain ⟨⟨hs, hlen, hfit⟩, hq1⟩ := hp
      obtain ⟨e, m⟩ := fillV_mem r _ _ q1 hq hq1
      refine ⟨by rw [e, wr_length hfit], fun c hc => ?_⟩
      rcases m c hc with hc | ⟨z, hz, h1, h2⟩
      · rcases wr_mem hc with hc | hc
        · exact .inl hc
        · exact .inr ⟨(i, x), List.mem_cons_self .., hs, hc⟩
      · exact .inr ⟨z, List.mem_cons_of_mem _ hz, h1, h2⟩

inductive Bld where
  | st (places : List (Nat × Nat))
  | ar (size : Nat)
def bld (P : Program) (t : TypeId) : Option Bld := match P.underlying t with
  | some (.struct fs) => (fs.toList.mapM fun f => (szo P f.type).map fun z => (f.offset, z)).map .st
  | some (.array _ e) => (szo P e).map .ar
  | _ => none
def Bld.place : Bld → Nat → Option (Nat × Nat)
  | .st l, i => l[i]?
  | .ar z, i => some (i * z, z)

theorem run_mapM_ok {α β : Type} {P : Program} {w : World} (f : α → Sem β) (g : α → Option β) (hfg : ∀ x y, g x = some y → (f x).run P w = .ok y w) : ∀ (l : List α) (r : List β), l.mapM g = some r → (l.mapM f : Sem (List β)).run P w = .ok r w
  | [], r, h => by simp at h; subst h; simp
  | x :: l, r, h => by
    rw [List.mapM_cons] at h
    cases hx : g x with
    | none => simp [hx] at h
    | some y =>
      cases hl : l.mapM g with
      | none => simp [hx, hl] at h
      | some ys =>
        simp [hx, hl] at h
        subst h
        simp [List.mapM_cons, hfg x y hx, run_mapM_ok f g hfg l ys hl]

def buildV (P : Program) (t : TypeId) (parts : List (Nat × V)) : Option (Prop × V) :=
  match bld P t, zeroL P t with
  | some b, some z => (fillV b.place z parts).map fun q => (q.1, .a q.2)
  | _, _ => none

theorem buildV_sound {P : Program} {t : TypeId} {parts : List (Nat × V)} {pv : List (Nat × Value)} {p : Prop} {v : V} (σ : Nat → Loc) {n : Nat} (h : buildV P t parts = some (p, v)) (hp : p) (hl : ∀ x ∈ parts, V.lt n x.2)
    (hm : parts.length = pv.length ∧ ∀ (j : Nat) (x : Nat × V) (y : Nat × Value), parts[j]? = some x → pv[j]? = some y → y.1 = x.1 ∧ Mt σ x.2 y.2) (w : World) :
    (Instr.build t pv.toArray).run P w = .ok (conc σ v) w := by
  unfold buildV at h
  split at h
  · rename_i b z hb hz
    obtain ⟨⟨q1, q2⟩, hq, h⟩ := Option.map_eq_some_iff.1 h
    cases h
    obtain ⟨zv, hzr, hzc⟩ := run_zeroL hz w
    have hf := fillV_sound σ n parts pv z q2 q1 hq hp hl hm
    unfold bld at hb
    split at hb
    · rename_i fs hu
      obtain ⟨pl, hpl, hb⟩ := Option.map_eq_some_iff.1 hb
      subst hb
      have hrun := run_mapM_ok (P := P) (w := w) (fun f : Field => (do pure (f.offset, ← sizeOf f.type) : Sem (Nat × Nat))) _ (fun f y hy => by
        obtain ⟨s, hs, rfl⟩ := Option.map_eq_some_iff.1 hy
        simp [run_szo hs]) fs.toList pl hpl
      have hplace : (fun x => pl.toArray[x]?) = Bld.place (.st pl) := by funext i; simp [Bld.place]
      simp only [Instr.build, Sem.run_bind, hzr, Result.andThen_ok, run_underlying hu, hzc σ, Array.mapM_eq_mapM_toList, Sem.run_map, hrun]
      rw [hplace, hf]
      rfl
    · rename_i m e hu
      obtain ⟨s, hs, hb⟩ := Option.map_eq_some_iff.1 hb
      subst hb
      simp only [Instr.build, Sem.run_bind, hzr, Result.andThen_ok, run_underlying hu, hzc σ, run_szo hs]
      have hplace : (fun i => some (i * s, s)) = Bld.place (.ar s) := by funext i; rfl
      rw [hplace, hf]
      rfl
    · cases hb
  · cases h

theorem buildV_lt {P : Program} {t : TypeId} {parts : List (Nat × V)} {p : Prop} {v : V} {n : Nat} (h : buildV P t parts = some (p, v)) (hp : p) (hl : ∀ x ∈ parts, V.lt n x.2) : v.lt n := by
  unfold buildV at h
  split at h
  · rename_i b z hb hz
    obtain ⟨⟨q1, q2⟩, hq, h⟩ := Option.map_eq_some_iff.1 h
    cases h
    obtain ⟨i, zv, _, _, _, _, hzm⟩ := zeroL_some hz
    have key : ∀ c ∈ q2, V.lt n c ∧ c.one = true := fun c hc => by
      rcases (fillV_mem parts z q2 q1 hq hp).2 c hc with h1 | ⟨x, hx, h1, h2⟩
      · exact ⟨(hzm c h1).1 n, (hzm c h1).2⟩
      · exact cellsL_wf h1 (hl x hx) c h2
    exact ⟨(lts_iff _ _).2 fun c hc => (key c hc).1, List.all_eq_true.2 fun c hc => (key c hc).2⟩
  · cases h
end Go.Sx
namespace Go.Sx
open Go.RowKit

def bnd : Option V → Option (Option Int)
  | none => some none
  | some (.v (.int _ n)) => some (some n)
  | _ => none

def topV (h : Option Int) (len : Nat) (q : Int → Prop) : Prop := match h with | none => True | some h' => h' ≤ (len : Int) ∨ q h'
def restV (h : Option Int) (len : Nat) (E S : V) : V := match h with | none => E | some h' => if h' ≤ (len : Int) then E else S
def sliceV (P : Program) (R : Nat → Int → Prop) (t : TypeId) (x : V) (lo hi mx : Option V) : Option (Prop × V) :=
  match x, bnd lo, bnd hi, bnd mx with
  | .v (.string s), some l, some h, some none => match P.underlying t with
    | some .string => let h' := h.getD s.size; let l' := l.getD 0
      some (0 ≤ l' ∧ l' ≤ h' ∧ h' ≤ s.size, .v (.string (s.extract l'.toNat h'.toNat)))
    | _ => none
  | .p i off, some l, some h, some none => match rowo P t with
    | some (true, n, z) => let h' := h.getD n; let l' := l.getD 0
      some (0 ≤ l' ∧ l' ≤ h' ∧ h' ≤ n, .s i (if n = l'.toNat then off else off + l'.toNat * z) (h'.toNat - l'.toNat) (.k (n - l'.toNat)))
    | _ => none
  | .s i off len (.k c), some l, some h, some m => match rowo P t with
    | some (false, _, z) => let m' := m.getD c; let h' := h.getD len; let l' := l.getD 0
      some (0 ≤ l' ∧ l' ≤ h' ∧ h' ≤ m' ∧ m' ≤ c ∧ (m = none ∨ h.isSome = true), .s i (if m'.toNat = l'.toNat then off else off + l'.toNat * z) (h'.toNat - l'.toNat) (.k (m'.toNat - l'.toNat)))
    | _ => none
  | .s i off len (.u c), some l, some h, some none => match rowo P t with
    | some (false, _, z) => let h' := h.getD len; let l' := l.getD 0
      some (0 ≤ l' ∧ l' ≤ h' ∧ topV h len (fun h' => l' ≤ len ∧ R z h'), if 0 < l' ∧ l' = len then restV h len (.e i off c l'.toNat z) (.s i (off + l'.toNat * z) (h'.toNat - l'.toNat) (if h.isSome = true then .i (c + l'.toNat) else .u (c + l'.toNat))) else .s i (off + l'.toNat * z) (h'.toNat - l'.toNat) (if h.isSome = true then .i (c + l'.toNat) else .u (c + l'.toNat)))
    | _ => none
  | .s i off len (.i c), some l, some h, some none => match rowo P t with
    | some (false, _, z) => let h' := h.getD len; let l' := l.getD 0
      some (0 ≤ l' ∧ l' ≤ h' ∧ topV h len (fun h' => l' ≤ len ∧ R z h'), if 0 < l' ∧ l' = len then restV h len (.e i off c l'.toNat z) (.s i (off + l'.toNat * z) (h'.toNat - l'.toNat) (.i (c + l'.toNat))) else .s i (off + l'.toNat * z) (h'.toNat - l'.toNat) (.i (c + l'.toNat)))
    | _ => none
  | .s i off len (.u _), some l, some (some h), some (some m) => match rowo P t with
    | some (false, _, z) => let l' := l.getD 0
      some (0 ≤ l' ∧ l' ≤ h ∧ h ≤ m ∧ m ≤ len, .s i (if m.toNat = l'.toNat then off else off + l'.toNat * z) (h.toNat - l'.toNat) (.k (m.toNat - l'.toNat)))
    | _ => none
  | .s i off len (.i _), some l, some (some h), some (some m) => match rowo P t with
    | some (false, _, z) => let l' := l.getD 0
      some (0 ≤ l' ∧ l' ≤ h ∧ h ≤ m ∧ m ≤ len, .s i (if m.toNat = l'.toNat then off else off + l'.toNat * z) (h.toNat - l'.toNat) (.k (m.toNat - l'.toNat)))
    | _ => none
  | .v (.slice none 0 0), some l, some h, some none => match rowo P t with
    | some (false, _, _) => some (l.getD 0 = 0 ∧ h.getD 0 = 0, .v (.slice none 0 0))
    | _ => none
  | _, _, _, _ => none

theorem bnd_mt {σ : Nat → Loc} {x : Option V} {y : Option Value} {r : Option Int} (h : bnd x = some r) (hm : ∀ u, x = some u → ∃ z, y = some z ∧ Mt σ u z) (hn : x = none → y = none) :
    (r = none ∧ y = none) ∨ ∃ k n, r = some n ∧ y = some (.int k n) := by
  unfold bnd at h
  split at h
  · cases h; exact .inl ⟨rfl, hn rfl⟩
  · rename_i k n
    cases h
    obtain ⟨z, hz, hmz⟩ := hm _ rfl
    have := hmz.ne (fun e => nomatch e)
    subst this
    exact .inr ⟨k, n, rfl, hz⟩
  · cases h

theorem run_sliceBounds_ok {P : Program} {w : World} (isS : Bool) (len cap : Nat) (lo hi mx : Option Value) (l h m : Option Int)
    (hl : (l = none ∧ lo = none) ∨ ∃ k n, l = some n ∧ lo = some (.int k n)) (hh : (h = none ∧ hi = none) ∨ ∃ k n, h = some n ∧ hi = some (.int k n)) (hm : (m = none ∧ mx = none) ∨ ∃ k n, m = some n ∧ mx = some (.int k n))
    (h1 : 0 ≤ l.getD 0) (h2 : l.getD 0 ≤ h.getD len) (h3 : h.getD len ≤ m.getD cap) (h4 : m.getD cap ≤ cap) (h5 : m = none ∨ h.isSome = true) :
    (Instr.sliceBounds isS len cap lo hi mx).run P w = .ok ((l.getD 0).toNat, (h.getD len).toNat, (m.getD cap).toNat) w := by
  unfold Instr.sliceBounds
  rcases hm with ⟨rfl, rfl⟩ | ⟨k3, n3, rfl, rfl⟩ <;> rcases hh with ⟨rfl, rfl⟩ | ⟨k2, n2, rfl, rfl⟩ <;> rcases hl with ⟨rfl, rfl⟩ | ⟨k1, n1, rfl, rfl⟩ <;>
    simp only [Option.getD_none, Option.getD_some] at h1 h2 h3 h4 ⊢ <;>
    first
      | (exfalso; simp at h5; done)
      | simp (disch := omega) [run_sliceBound]

theorem sliceV_sound {P : Program} {R : Nat → Int → Prop} {t : TypeId} {x : V} {lo hi mx : Option V} {Lo Hi Mx : Option Value} {p : Prop} {v : V} (σ : Nat → Loc) (h : sliceV P R t x lo hi mx = some (p, v)) (hp : p) (w : World)
    (hl : (∀ u, lo = some u → ∃ z, Lo = some z ∧ Mt σ u z) ∧ (lo = none → Lo = none)) (hh : (∀ u, hi = some u → ∃ z, Hi = some z ∧ Mt σ u z) ∧ (hi = none → Hi = none))
    (hm : (∀ u, mx = some u → ∃ z, Mx = some z ∧ Mt σ u z) ∧ (mx = none → Mx = none)) (hcap : ∀ i off len c, x = .s i off len (.u c) ∨ x = .s i off len (.i c) → len ≤ (σ i).cap - c)
    (hR : ∀ i off len c, x = .s i off len (.u c) ∨ x = .s i off len (.i c) → ∀ z h', R z h' → h' ≤ (((σ i).cap - c : Nat) : Int)) :
    (Instr.sliceAt t (conc σ x) Lo Hi Mx).run P w = .ok (conc σ v) w := by
  unfold sliceV at h
  split at h
  · split at h
    · rename_i s l hh' hbl hbh hbm _ hu
      simp only [Option.some.injEq, Prod.mk.injEq] at h
      obtain ⟨rfl, rfl⟩ := h
      obtain ⟨p1, p2, p3⟩ := hp
      have b1 := bnd_mt hbl hl.1 hl.2
      have b2 := bnd_mt hbh hh.1 hh.2
      have b3 := bnd_mt hbm hm.1 hm.2
      have hM : Mx = none := by rcases b3 with ⟨_, h⟩ | ⟨_, _, h, _⟩ <;> first | exact h | cases h
      subst hM
      have := run_sliceBounds_ok (P := P) (w := w) false s.size s.size Lo Hi none l hh' none b1 b2 (.inl ⟨rfl, rfl⟩) p1 p2 (by simpa using p3) (by simp) (.inl rfl)
      simp [Instr.sliceAt, run_underlying hu, conc, Instr.slice, this]
    · cases h
  · split at h
    · rename_i i off l hh' hbl hbh hbm _ n z hr
      simp only [Option.some.injEq, Prod.mk.injEq] at h
      obtain ⟨rfl, rfl⟩ := h
      obtain ⟨p1, p2, p3⟩ := hp
      have b1 := bnd_mt hbl hl.1 hl.2
      have b2 := bnd_mt hbh hh.1 hh.2
      have b3 := bnd_mt hbm hm.1 hm.2
      have hM : Mx = none := by rcases b3 with ⟨_, h⟩ | ⟨_, _, h, _⟩ <;> first | exact h | cases h
      subst hM
      have := run_sliceBounds_ok (P := P) (w := w) false n n Lo Hi none l hh' none b1 b2 (.inl ⟨rfl, rfl⟩) p1 p2 (by simpa using p3) (by simp) (.inl rfl)
      rcases rowo_some hr with ⟨_, e, hu, hz⟩ | ⟨h0, _⟩
      · simp only [Instr.sliceAt, Sem.run_bind, run_underlying hu, Result.andThen_ok, conc, Instr.sureAddr, Sem.run_pure, this, run_szo hz, addr_add]
        simp only [Option.getD_none, Int.toNat_natCast, Cap.val]
        split <;> simp [Nat.add_assoc]
      · cases h0
    · cases h
  · split at h
    · rename_i i off len c l hh' m hbl hbh hbm _ _ z hr
      simp only [Option.some.injEq, Prod.mk.injEq] at h
      obtain ⟨rfl, rfl⟩ := h
      obtain ⟨p1, p2, p3, p4, p5⟩ := hp
      have b1 := bnd_mt hbl hl.1 hl.2
      have b2 := bnd_mt hbh hh.1 hh.2
      have b3 := bnd_mt hbm hm.1 hm.2
      have := run_sliceBounds_ok (P := P) (w := w) true len c Lo Hi Mx l hh' m b1 b2 b3 p1 p2 p3 p4 p5
      rcases rowo_some hr with ⟨h0, _⟩ | ⟨_, e, hu, hz⟩
      · cases h0
      · simp only [Instr.sliceAt, Sem.run_bind, run_underlying hu, Result.andThen_ok, conc, Instr.slice, Cap.val, this, run_szo hz, addr_add, Option.map_some, Sem.run_pure]
        split <;> simp [Nat.add_assoc]
    · cases h
  · split at h
    · rename_i i off len c l hh' hbl hbh hbm _ _ z hr
      simp only [Option.some.injEq, Prod.mk.injEq] at h
      obtain ⟨rfl, rfl⟩ := h
      obtain ⟨p1, p2, p3⟩ := hp
      have b1 := bnd_mt hbl hl.1 hl.2
      have b2 := bnd_mt hbh hh.1 hh.2
      have b3 := bnd_mt hbm hm.1 hm.2
      have hM : Mx = none := by rcases b3 with ⟨_, h⟩ | ⟨_, _, h, _⟩ <;> first | exact h | cases h
      subst hM
      have hc := hcap i off len c (.inl rfl)
      have hr2 := hR i off len c (.inl rfl) z
      have htop : hh'.getD len ≤ (((σ i).cap - c : Nat) : Int) ∧ (hh'.getD len ≤ len ∨ (l.getD 0 ≤ len ∧ (len : Int) < hh'.getD len)) := by
        cases hh' with
        | none => exact ⟨by simp only [Option.getD_none]; omega, .inl (by simp only [Option.getD_none]; omega)⟩
        | some h' =>
          simp only [Option.getD_some]
          by_cases hle : h' ≤ len
          · exact ⟨by omega, .inl hle⟩
          · rcases p3 with h1 | ⟨h1, h2⟩
            · exact absurd h1 hle
            · exact ⟨hr2 _ h2, .inr ⟨h1, by omega⟩⟩
      have := run_sliceBounds_ok (P := P) (w := w) true len ((σ i).cap - c) Lo Hi none l hh' none b1 b2 (.inl ⟨rfl, rfl⟩) p1 p2 (by simp only [Option.getD_none]; exact htop.1) (by simp) (.inl rfl)
      rcases rowo_some hr with ⟨h0, _⟩ | ⟨_, e, hu, hz⟩
      · cases h0
      · simp only [Instr.sliceAt, Sem.run_bind, run_underlying hu, Result.andThen_ok, conc, Instr.slice, Cap.val, this, run_szo hz, addr_add, Option.map_some, Sem.run_pure, Option.getD_none, Int.toNat_natCast]
        by_cases hb : (0 < l.getD 0 ∧ l.getD 0 = len) ∧ hh'.getD len ≤ len
        · have e2 : (hh'.getD (len : Int)).toNat - (l.getD 0).toNat = 0 := by omega
          have er : ∀ E S : V, restV hh' len E S = E := fun E S => by
            cases hh' with
            | none => rfl
            | some h' => exact if_pos (by simpa using hb.2)
          rw [if_pos hb.1, er]
          simp only [conc, e2]
          split <;> simp [Nat.add_assoc]
        · have er : ∀ S : V, (if 0 < l.getD 0 ∧ l.getD 0 = len then restV hh' len (.e i off c (l.getD 0).toNat z) S else S) = S := fun S => by
            split
            · rename_i hb1
              cases hh' with
              | none => exact absurd ⟨hb1, by simp⟩ hb
              | some h' => exact if_neg (fun hle => hb ⟨hb1, by simpa using hle⟩)
            · rfl
          rw [er]
          have ec : (if hh'.isSome = true then Cap.i (c + (l.getD 0).toNat) else Cap.u (c + (l.getD 0).toNat)).val (σ i).cap = (σ i).cap - (c + (l.getD 0).toNat) := by split <;> rfl
          simp only [conc, ec]
          split
          · rename_i he
            have : (l.getD 0).toNat = 0 := by omega
            simp [this]
          · simp [Nat.add_assoc]
            omega
    · cases h
  · split at h
    · rename_i i off len c l hh' hbl hbh hbm _ _ z hr
      simp only [Option.some.injEq, Prod.mk.injEq] at h
      obtain ⟨rfl, rfl⟩ := h
      obtain ⟨p1, p2, p3⟩ := hp
      have b1 := bnd_mt hbl hl.1 hl.2
      have b2 := bnd_mt hbh hh.1 hh.2
      have b3 := bnd_mt hbm hm.1 hm.2
      have hM : Mx = none := by rcases b3 with ⟨_, h⟩ | ⟨_, _, h, _⟩ <;> first | exact h | cases h
      subst hM
      have hc := hcap i off len c (.inr rfl)
      have hr2 := hR i off len c (.inr rfl) z
      have htop : hh'.getD len ≤ (((σ i).cap - c : Nat) : Int) ∧ (hh'.getD len ≤ len ∨ (l.getD 0 ≤ len ∧ (len : Int) < hh'.getD len)) := by
        cases hh' with
        | none => exact ⟨by simp only [Option.getD_none]; omega, .inl (by simp only [Option.getD_none]; omega)⟩
        | some h' =>
          simp only [Option.getD_some]
          by_cases hle : h' ≤ len
          · exact ⟨by omega, .inl hle⟩
          · rcases p3 with h1 | ⟨h1, h2⟩
            · exact absurd h1 hle
            · exact ⟨hr2 _ h2, .inr ⟨h1, by omega⟩⟩
      have := run_sliceBounds_ok (P := P) (w := w) true len ((σ i).cap - c) Lo Hi none l hh' none b1 b2 (.inl ⟨rfl, rfl⟩) p1 p2 (by simp only [Option.getD_none]; exact htop.1) (by simp) (.inl rfl)
      rcases rowo_some hr with ⟨h0, _⟩ | ⟨_, e, hu, hz⟩
      · cases h0
      · simp only [Instr.sliceAt, Sem.run_bind, run_underlying hu, Result.andThen_ok, conc, Instr.slice, Cap.val, this, run_szo hz, addr_add, Option.map_some, Sem.run_pure, Option.getD_none, Int.toNat_natCast]
        by_cases hb : (0 < l.getD 0 ∧ l.getD 0 = len) ∧ hh'.getD len ≤ len
        · have e2 : (hh'.getD (len : Int)).toNat - (l.getD 0).toNat = 0 := by omega
          have er : ∀ E S : V, restV hh' len E S = E := fun E S => by
            cases hh' with
            | none => rfl
            | some h' => exact if_pos (by simpa using hb.2)
          rw [if_pos hb.1, er]
          simp only [conc, e2]
          split <;> simp [Nat.add_assoc]
        · have er : ∀ S : V, (if 0 < l.getD 0 ∧ l.getD 0 = len then restV hh' len (.e i off c (l.getD 0).toNat z) S else S) = S := fun S => by
            split
            · rename_i hb1
              cases hh' with
              | none => exact absurd ⟨hb1, by simp⟩ hb
              | some h' => exact if_neg (fun hle => hb ⟨hb1, by simpa using hle⟩)
            · rfl
          rw [er]
          simp only [conc, Cap.val]
          split
          · rename_i he
            have : (l.getD 0).toNat = 0 := by omega
            simp [this]
          · simp [Nat.add_assoc]
            omega
    · cases h
  · split at h
    · rename_i i off len c l hx m hbl hbh hbm _ _ z hr
      simp only [Option.some.injEq, Prod.mk.injEq] at h
      obtain ⟨rfl, rfl⟩ := h
      obtain ⟨p1, p2, p3, p4⟩ := hp
      have b1 := bnd_mt hbl hl.1 hl.2
      have b2 := bnd_mt hbh hh.1 hh.2
      have b3 := bnd_mt hbm hm.1 hm.2
      have hc := hcap i off len c (.inl rfl)
      have := run_sliceBounds_ok (P := P) (w := w) true len ((σ i).cap - c) Lo Hi Mx l (some hx) (some m) b1 b2 b3 p1 (by simpa using p2) (by simpa using p3) (by simp only [Option.getD_some]; omega) (.inr rfl)
      rcases rowo_some hr with ⟨h0, _⟩ | ⟨_, e, hu, hz⟩
      · cases h0
      · simp only [Instr.sliceAt, Sem.run_bind, run_underlying hu, Result.andThen_ok, conc, Instr.slice, Cap.val, this, run_szo hz, addr_add, Option.map_some, Sem.run_pure, Option.getD_some]
        split <;> simp [Nat.add_assoc]
    · cases h
  · split at h
    · rename_i i off len c l hx m hbl hbh hbm _ _ z hr
      simp only [Option.some.injEq, Prod.mk.injEq] at h
      obtain ⟨rfl, rfl⟩ := h
      obtain ⟨p1, p2, p3, p4⟩ := hp
      have b1 := bnd_mt hbl hl.1 hl.2
      have b2 := bnd_mt hbh hh.1 hh.2
      have b3 := bnd_mt hbm hm.1 hm.2
      have hc := hcap i off len c (.inr rfl)
      have := run_sliceBounds_ok (P := P) (w := w) true len ((σ i).cap - c) Lo Hi Mx l (some hx) (some m) b1 b2 b3 p1 (by simpa using p2) (by simpa using p3) (by simp only [Option.getD_some]; omega) (.inr rfl)
      rcases rowo_some hr with ⟨h0, _⟩ | ⟨_, e, hu, hz⟩
      · cases h0
      · simp only [Instr.sliceAt, Sem.run_bind, run_underlying hu, Result.andThen_ok, conc, Instr.slice, Cap.val, this, run_szo hz, addr_add, Option.map_some, Sem.run_pure, Option.getD_some]
        split <;> simp [Nat.add_assoc]
    · cases h
  · split at h
    · rename_i l hh' hbl hbh hbm _ _ z hr
      simp only [Option.some.injEq, Prod.mk.injEq] at h
      obtain ⟨rfl, rfl⟩ := h
      obtain ⟨p1, p2⟩ := hp
      have b1 := bnd_mt hbl hl.1 hl.2
      have b2 := bnd_mt hbh hh.1 hh.2
      have b3 := bnd_mt hbm hm.1 hm.2
      have hM : Mx = none := by rcases b3 with ⟨_, h⟩ | ⟨_, _, h, _⟩ <;> first | exact h | cases h
      subst hM
      have p2' : hh'.getD ((0 : Nat) : Int) = 0 := p2
      have := run_sliceBounds_ok (P := P) (w := w) true 0 0 Lo Hi none l hh' none b1 b2 (.inl ⟨rfl, rfl⟩) (by omega) (by omega) (by simp only [Option.getD_none]; omega) (by simp) (.inl rfl)
      rcases rowo_some hr with ⟨h0, _⟩ | ⟨_, e, hu, hz⟩
      · cases h0
      · simp only [Instr.sliceAt, Sem.run_bind, run_underlying hu, Result.andThen_ok, conc, Instr.slice, this, run_szo hz, Option.map_none, Sem.run_pure, Option.getD_none, Int.toNat_natCast, p1, p2']
        rfl
    · cases h
  · cases h

theorem sliceV_lt {P : Program} {R : Nat → Int → Prop} {t : TypeId} {x : V} {lo hi mx : Option V} {p : Prop} {v : V} (h : sliceV P R t x lo hi mx = some (p, v)) {n : Nat} (hl : x.lt n) : v.lt n := by
  unfold sliceV at h
  split at h
  · split at h
    · cases h; rfl
    · cases h
  · split at h
    · cases h; exact hl
    · cases h
  · split at h
    · cases h; exact hl
    · cases h
  · split at h
    · simp only [Option.some.injEq, Prod.mk.injEq] at h
      obtain ⟨_, rfl⟩ := h
      split
      · unfold restV; split
        · exact hl
        · split <;> exact hl
      · exact hl
    · cases h
  · split at h
    · simp only [Option.some.injEq, Prod.mk.injEq] at h
      obtain ⟨_, rfl⟩ := h
      split
      · unfold restV; split
        · exact hl
        · split <;> exact hl
      · exact hl
    · cases h
  · split at h
    · cases h; exact hl
    · cases h
  · split at h
    · cases h; exact hl
    · cases h
  · split at h
    · cases h; rfl
    · cases h
  · cases h
end Go.Sx
namespace Go.Sx
open Go.RowKit

mutual
def V.noref (i : Nat) : V → Bool
  | .p j _ => j != i
  | .s j _ _ _ => j != i
  | .e j _ _ _ _ => j != i
  | .a cs => norefs i cs
  | .t cs => norefs i cs
  | .f _ cs => norefs i cs
  | _ => true
def norefs (i : Nat) : List V → Bool
  | [] => true
  | x :: xs => V.noref i x && norefs i xs
end
def forget (i : Nat) (v : V) : V := if V.noref i v = true then v else .any

theorem norefs_all (i : Nat) : ∀ l : List V, norefs i l = l.all (V.noref i)
  | [] => rfl
  | x :: xs => by simp [norefs, norefs_all i xs]

mutual
theorem conc_noref {σ σ' : Nat → Loc} {i : Nat} (h : ∀ j, j ≠ i → σ' j = σ j) : ∀ x : V, V.noref i x = true → conc σ' x = conc σ x
  | .any, _ => rfl
  | .v _, _ => rfl
  | .p j off, hl => by simp only [V.noref, bne_iff_ne] at hl; simp only [conc, h j hl]
  | .s j off len c, hl => by simp only [V.noref, bne_iff_ne] at hl; simp only [conc, h j hl]
  | .e j off c l z, hl => by simp only [V.noref, bne_iff_ne] at hl; simp only [conc, h j hl]
  | .a cs, hl => by simp only [V.noref] at hl; simp only [conc, concs_noref h cs hl]
  | .t cs, hl => by simp only [V.noref] at hl; simp only [conc, concs_noref h cs hl]
  | .f n cs, hl => by simp only [V.noref] at hl; simp only [conc, concs_noref h cs hl]
theorem concs_noref {σ σ' : Nat → Loc} {i : Nat} (h : ∀ j, j ≠ i → σ' j = σ j) : ∀ l : List V, norefs i l = true → concs σ' l = concs σ l
  | [], _ => rfl
  | x :: xs, hl => by simp only [norefs, Bool.and_eq_true] at hl; simp only [concs, conc_noref h x hl.1, concs_noref h xs hl.2]
end

def norefH (i : Nat) (H : List Blk) : Prop := ∀ b ∈ H, norefs i b.cells = true

section
variable {P : Program} {E : En} {σ : Nat → Loc} {s : St} {a : Act} {w : World}

theorem Rel.move (h : Rel E σ s a w) {i : Nat} {b b' : Blk} (hb : s.heap[i]? = some b) (hm : b.k.mut = true) (hi : E.H.length ≤ i) (hn : norefH i s.heap)
    {w' : World} {σ' : Nat → Loc} (hσ : ∀ j, j ≠ i → σ' j = σ j) (hwf : ∀ c ∈ b'.cells, V.lt s.heap.length c ∧ c.one = true)
    (os : w'.os = w.os) (tape : w'.tape = w.tape) (output : w'.output = w.output) (hs : w.heap.size ≤ w'.heap.size)
    (hk : ∀ k, k < w.heap.size → k ≠ (σ i).blk → w'.heap[k]? = w.heap[k]?) (hnew : (σ' i).blk = (σ i).blk ∨ w.heap.size ≤ (σ' i).blk)
    (hold : Holds σ' w' i b') : Rel E σ' ⟨s.slots.map (forget i), s.heap.set i b'⟩ a w' := by
  have hlive : b.k.live = true := by cases hkk : b.k <;> simp_all [BK.mut, BK.live]
  have hnb : ∀ (j : Nat) (x : Blk), s.heap[j]? = some x → norefs i x.cells = true := fun j x hx => hn x (List.mem_of_getElem? hx)
  refine ⟨h.defers, ?_, ?_, ?_, ⟨?_, ?_, ?_⟩, ?_, ?_, ?_, ?_⟩
  · simp only [List.length_map]; exact h.size
  · intro t v hv
    simp only [List.getElem?_map] at hv
    obtain ⟨u, hu, rfl⟩ := Option.map_eq_some_iff.1 hv
    unfold forget
    split
    · rename_i hno
      rcases h.slots t u hu with h1 | h1
      · exact .inl h1
      · right; rw [h1, conc_noref hσ u hno]
    · exact .inl rfl
  · intro v hv
    obtain ⟨u, hu, rfl⟩ := List.mem_map.1 hv
    simp only [List.length_set]
    unfold forget
    split
    · exact h.lt u hu
    · trivial
  · intro j x hx
    rcases get_set_cases hx with ⟨hne, hj⟩ | ⟨rfl, rfl⟩
    · exact (h.heap.holds j x hj).congr (hσ j hne) (concs_noref hσ _ (hnb j x hj)) hs fun hl => hk _ (h.heap.blk_lt hj hl) (h.heap.sep j i x b hne hj hb hl hm)
    · exact hold
  · intro j1 j2 b1 b2 hne h1 h2 l1 m2
    rcases get_set_cases h1 with ⟨n1, g1⟩ | ⟨e1, f1⟩ <;> rcases get_set_cases h2 with ⟨n2, g2⟩ | ⟨e2, f2⟩
    · rw [hσ j1 n1, hσ j2 n2]; exact h.heap.sep j1 j2 b1 b2 hne g1 g2 l1 m2
    · rw [hσ j1 n1, e2]
      rcases hnew with hnew | hnew
      · rw [hnew]; exact h.heap.sep j1 i b1 b n1 g1 hb l1 hm
      · have := h.heap.blk_lt g1 l1; omega
    · rw [hσ j2 n2, e1]
      rcases hnew with hnew | hnew
      · rw [hnew]; exact h.heap.sep i j2 b b2 (Ne.symm n2) hb g2 hlive m2
      · have := h.heap.blk_lt (i := j2) g2 (by cases hkk : b2.k <;> simp_all [BK.mut, BK.live]); omega
    · exact absurd (e1.trans e2.symm) hne
  · intro j x hx c hc
    simp only [List.length_set]
    rcases get_set_cases hx with ⟨hne, hj⟩ | ⟨rfl, rfl⟩
    · exact h.heap.wf j x hj c hc
    · exact hwf c hc
  · simp only [List.length_set]; exact h.len
  · intro j hj; rw [hσ j (by omega), h.agree j hj]
  · exact h.fr.step os tape output hs fun k hk' => by
      by_cases e : k = (σ i).blk
      · left; subst e; exact h.new i b hb hm
      · exact .inr (hk k hk' e)
  · intro j x hx hmx
    rcases get_set_cases hx with ⟨hne, hj⟩ | ⟨rfl, rfl⟩
    · rw [hσ j hne]; exact h.new j x hj hmx
    · rcases hnew with hnew | hnew
      · rw [hnew]; exact h.new j b hb hm
      · left; exact Nat.le_trans h.fr.size hnew

def bto (P : Program) (t : TypeId) : Option Nat := (P.info? t).map (·.bytes)
def slo (P : Program) (t : TypeId) : Option (TypeId × Nat × Nat) := match P.underlying t with
  | some (.slice e) => match szo P e, bto P e with
    | some (z + 1), some b => some (e, z + 1, b)
    | _, _ => none
  | _ => none
theorem slo_some {t e : TypeId} {z b : Nat} (h : slo P t = some (e, z, b)) : P.underlying t = some (.slice e) ∧ szo P e = some z ∧ 0 < z ∧ ∃ i, P.info? e = some i ∧ i.size = z ∧ i.bytes = b := by
  unfold slo at h
  split at h
  · rename_i e' hu
    split at h
    · rename_i z' b' hz hb
      cases h
      obtain ⟨i, hi, hsz⟩ := szo_info hz
      refine ⟨hu, hz, Nat.succ_pos _, i, hi, hsz, ?_⟩
      unfold bto at hb
      rw [hi] at hb
      simpa using hb
    · cases h
  · cases h

def newsV (hp : List Blk) (z : Nat) : V → Option (Prop × Nat × List V)
  | .s j off m _ => match hp[j]? with
    | some b => some (b.k.live = true ∧ off + m * z ≤ b.cells.length, m, seg b.cells off (m * z))
    | none => none
  | .e .. => some (True, 0, [])
  | .v (.slice none 0 0) => some (True, 0, [])
  | _ => none

theorem newsV_sound (hr : HRel σ s.heap w) {z m : Nat} {x : V} {p : Prop} {ns : List V} (h : newsV s.heap z x = some (p, m, ns)) (hp : p) :
    ∃ ad c, conc σ x = .slice ad m c ∧ ns.length = m * z ∧ ((Builtin.firstCells z m (.slice ad m c)).run P w = .ok (concs σ ns).toArray w ∧ (Builtin.firstCells z m (.slice ad m c)).run P w.drew = .ok (concs σ ns).toArray w.drew) ∧ (∀ c ∈ ns, V.lt s.heap.length c ∧ c.one = true) := by
  unfold newsV at h
  split at h
  · split at h
    · rename_i j off m' c _ b hb
      simp only [Option.some.injEq, Prod.mk.injEq] at h
      obtain ⟨rfl, rfl, rfl⟩ := h
      have hl : (seg b.cells off (m' * z)).length = m' * z := by unfold seg; rw [List.length_take, List.length_drop]; omega
      have hc : ∀ k u, (concs σ (seg b.cells off (m' * z)))[k]? = some u → w.cell? ((⟨(σ j).blk, (σ j).off + off, none⟩ : Addr).add k) = some u := fun k u hu => by
        rw [addr_add, Nat.add_assoc]
        refine (hr.holds j b hb).cell hp.1 ?_
        rw [concs_seg, List.getElem?_take] at hu
        split at hu
        · rw [List.getElem?_drop] at hu; exact hu
        · cases hu
      refine ⟨_, _, rfl, hl, ⟨run_firstCells_some (P := P) w z m' _ m' _ _ (by rw [concs_length, hl]) hc, run_firstCells_some (P := P) w.drew z m' _ m' _ _ (by rw [concs_length, hl]) (by simpa using hc)⟩, fun c hc => ?_⟩
      exact hr.wf j b hb c (List.mem_of_mem_drop (List.mem_of_mem_take hc))
    · cases h
  · simp only [Option.some.injEq, Prod.mk.injEq] at h
    obtain ⟨rfl, rfl, rfl⟩ := h
    refine ⟨_, _, rfl, by simp, ⟨run_firstCells_some (P := P) w z 0 _ 0 _ [] (by simp) (by simp), run_firstCells_some (P := P) w.drew z 0 _ 0 _ [] (by simp) (by simp)⟩, by simp⟩
  · simp only [Option.some.injEq, Prod.mk.injEq] at h
    obtain ⟨rfl, rfl, rfl⟩ := h
    exact ⟨none, 0, rfl, by simp, ⟨run_firstCells_none w z 0 0 0, run_firstCells_none w.drew z 0 0 0⟩, by simp⟩
  · cases h

theorem room_y (t ty e : TypeId) (i : TypeInfo) (ht : P.underlying t = some (.slice e)) (hi : P.info? e = some i)
    (g sLen sCap : Nat) (cur : Array Value) (hg : w.heap[g]? = some (.cells cur e (0, 0)))
    (a : Option Addr) (m c : Nat) (news : List Value) (hf : (Builtin.firstCells i.size m (.slice a m c)).run P w = .ok news.toArray w) (h1 : ∀ u ∈ news, u.oneCell' = true)
    (hroom : sLen + m ≤ sCap) (hfit : sLen * i.size + news.length ≤ cur.size) :
    (Builtin.append_ #[t, t] ty #[.slice (some ⟨g, 0, none⟩) sLen sCap, .slice a m c]).run P w =
      .ok (.slice (some ⟨g, 0, none⟩) (sLen + m) sCap) (w.setRow g (cur.toList.take (sLen * i.size) ++ news ++ cur.toList.drop (sLen * i.size + news.length)).toArray) := by
  have hst := run_storeCells_at P g (sLen * i.size) e news 0 cur w hg (by simpa using hfit) h1
  simp only [Nat.add_zero] at hst
  simp [Builtin.append_, run_underlying ht, sizeOf, typeInfo, hi, Builtin.lenOf, hroom, hf, Addr.add_lit, hst]
theorem grow_y (t ty e : TypeId) (i : TypeInfo) (z : Value) (ht : P.underlying t = some (.slice e)) (hi : P.info? e = some i) (hz : i.zero = some z)
    (b : Addr) (sLen sCap : Nat) (olds : List Value) (hlo : olds.length = sLen * i.size) (holds : ∀ j v, olds[j]? = some v → w.cell? (b.add j) = some v)
    (a : Option Addr) (n c : Nat) (news : List Value) (hf : (Builtin.firstCells i.size n (.slice a n c)).run P w.drew = .ok news.toArray w.drew)
    (hg : sCap < sLen + n) (h63 : ((sLen + n : Nat) : Int) ≤ 9223372036854775807) (hfit : Builtin.nextslicecap (sLen + n) sCap * i.bytes ≤ 281474976710656) :
    (Builtin.append_ #[t, t] ty #[.slice (some b) sLen sCap, .slice a n c]).run P w =
      .ok (.slice (some ⟨w.heap.size, 0, none⟩) (sLen + n) (grownCap w (sLen + n) sCap e))
        (w.drew.alloc (.cells (olds.toArray ++ news.toArray ++ Builtin.zeroCells z.cells (grownCap w (sLen + n) sCap e - (sLen + n))) e)) := by
  have hn : ¬ (sLen + n ≤ sCap) := by omega
  have h63' : ¬ (9223372036854775807 < ((sLen : Int) + (n : Int))) := by omega
  have h48' : ¬ (281474976710656 < Builtin.nextslicecap (sLen + n) sCap * i.bytes) := by omega
  have hfo := run_firstCells_some (P := P) w.drew i.size sLen b sLen sCap olds hlo (by simpa using holds)
  simp [Builtin.append_, run_underlying ht, sizeOf, typeInfo, zeroValue, hi, hz, Builtin.lenOf, hn, h63', h48', Question.forced, hf, hfo, newRow, grownCap]
  congr 2
  apply Array.ext'
  simp [List.append_assoc]
theorem nil_y (t ty e : TypeId) (i : TypeInfo) (z : Value) (ht : P.underlying t = some (.slice e)) (hi : P.info? e = some i) (hz : i.zero = some z)
    (a : Option Addr) (n c : Nat) (news : List Value) (hf : (Builtin.firstCells i.size n (.slice a n c)).run P w.drew = .ok news.toArray w.drew)
    (h0 : 0 < n) (h63 : (n : Int) ≤ 9223372036854775807) (h48 : n * i.bytes ≤ 281474976710656) :
    (Builtin.append_ #[t, t] ty #[.slice none 0 0, .slice a n c]).run P w =
      .ok (.slice (some ⟨w.heap.size, 0, none⟩) n (grownCap w n 0 e)) (w.drew.alloc (.cells (news.toArray ++ Builtin.zeroCells z.cells (grownCap w n 0 e - n)) e)) := by
  have hn : n ≠ 0 := by omega
  have h63' : ¬ (9223372036854775807 < (n : Int)) := by omega
  have h48' : ¬ (281474976710656 < Builtin.nextslicecap n 0 * i.bytes) := by rw [nextslicecap_zero h0]; omega
  simp [Builtin.append_, run_underlying ht, sizeOf, typeInfo, zeroValue, hi, hz, Builtin.lenOf, hn, h63', h48', Question.forced, run_firstCells_none, hf, newRow, grownCap]
theorem same_y (t ty e : TypeId) (i : TypeInfo) (ht : P.underlying t = some (.slice e)) (hi : P.info? e = some i)
    (b : Option Addr) (sLen sCap : Nat) (hle : sLen ≤ sCap) (a : Option Addr) (c : Nat) (hf : (Builtin.firstCells i.size 0 (.slice a 0 c)).run P w = .ok #[] w) :
    (Builtin.append_ #[t, t] ty #[.slice b sLen sCap, .slice a 0 c]).run P w = .ok (.slice b sLen sCap) w := by
  cases b <;> simp [Builtin.append_, run_underlying ht, sizeOf, typeInfo, hi, Builtin.lenOf, hle, hf, storeCells]

def appOwn (P : Program) (n0 : Nat) (s : St) (t : TypeId) (i len : Nat) (x : V) : Option (Prop × V × St) :=
  match slo P t with
  | some (e, z, by_) => match s.heap[i]?, newsV s.heap z x with
    | some b, some (p, m, ns) => match b.k with
      | .own z' => some (p ∧ z' = z ∧ (zeroL P e).isSome = true ∧ b.elem = e ∧ b.cells.length = len * z ∧ n0 ≤ i ∧ norefH i s.heap ∧ (len + m) * by_ ≤ 140737488355328 ∧ len + m ≤ 9223372036854775807, .s i 0 (len + m) (.u 0), ⟨s.slots.map (forget i), s.heap.set i { b with cells := b.cells ++ ns }⟩)
      | _ => none
    | _, _ => none
  | none => none

theorem appOwn_sound (h : Rel E σ s a w) {t : TypeId} {i len : Nat} {x v : V} {p : Prop} {s' : St} (ha : appOwn P E.H.length s t i len x = some (p, v, s')) (hp : p) (ty : TypeId) :
    ∃ v' w' σ', (Builtin.append_ #[t, t] ty #[conc σ (.s i 0 len (.u 0)), conc σ x]).run P w = .ok v' w' ∧ v' = conc σ' v ∧ v.lt s'.heap.length ∧ Rel E σ' s' a w' := by
  unfold appOwn at ha
  split at ha
  · rename_i e z by_ hslo
    split at ha
    · rename_i b p' m ns hb hnews
      split at ha
      · rename_i z' hk
        simp only [Option.some.injEq, Prod.mk.injEq] at ha
        obtain ⟨rfl, rfl, rfl⟩ := ha
        obtain ⟨hp', rfl, hzero, rfl, hlen, hni, hno, hbytes, h63⟩ := hp
        obtain ⟨hu, hsz, hz0, info, hi, his, hib⟩ := slo_some hslo
        obtain ⟨ad, c, hcx, hnl, ⟨hfc, hfd⟩, hnwf⟩ := newsV_sound (P := P) h.heap hnews hp'
        obtain ⟨zs, hzs⟩ := Option.isSome_iff_exists.1 hzero
        obtain ⟨i', zv, hi', hzv, hzc, hzl, _⟩ := zeroL_some hzs
        rw [hi] at hi'
        cases hi'
        have hm : b.k.mut = true := by rw [hk]; rfl
        have hold := h.heap.holds i b hb
        unfold Holds at hold
        rw [hk] at hold
        obtain ⟨h0, cur, n, hg, hn, hcap, hcur, hmax, htake⟩ := hold
        have hnlen : n = len := by
          rw [hlen] at hn
          exact (Nat.eq_of_mul_eq_mul_right hz0 hn).symm
        subst hnlen
        have h1 : ∀ u ∈ concs σ ns, u.oneCell' = true := by
          intro u hu'
          rw [concs_eq] at hu'
          obtain ⟨d, hd, rfl⟩ := List.mem_map.1 hu'
          exact one_conc (hnwf d hd).2
        have hwf : ∀ d ∈ b.cells ++ ns, V.lt s.heap.length d ∧ d.one = true := fun d hd => by
          rcases List.mem_append.1 hd with hd | hd
          · exact h.heap.wf i b hb d hd
          · exact hnwf d hd
        have hilt : i < s.heap.length := (List.getElem?_eq_some_iff.1 hb).1
        have hnsno : norefs i (b.cells ++ ns) = true := by
          rw [norefs_all, List.all_append, ← norefs_all, ← norefs_all, hno b (List.mem_of_getElem? hb), Bool.true_and]
          unfold newsV at hnews
          split at hnews
          · split at hnews
            · rename_i j off m' c' _ bj hbj
              simp only [Option.some.injEq, Prod.mk.injEq] at hnews
              obtain ⟨_, _, rfl⟩ := hnews
              have := hno bj (List.mem_of_getElem? hbj)
              rw [norefs_all] at this ⊢
              exact List.all_eq_true.2 fun d hd => List.all_eq_true.1 this d (List.mem_of_mem_drop (List.mem_of_mem_take hd))
            · cases hnews
          · simp only [Option.some.injEq, Prod.mk.injEq] at hnews
            obtain ⟨_, _, rfl⟩ := hnews; rfl
          · simp only [Option.some.injEq, Prod.mk.injEq] at hnews
            obtain ⟨_, _, rfl⟩ := hnews; rfl
          · cases hnews
        have hconc : conc σ (.s i 0 n (.u 0)) = .slice (some ⟨(σ i).blk, 0, none⟩) n (σ i).cap := by simp [conc, Cap.val, h0]
        have hsum : (b.cells ++ ns).length = (n + m) * z' := by rw [List.length_append, hlen, hnl, Nat.add_mul]
        by_cases hroom : n + m ≤ (σ i).cap
        · have hfit : n * info.size + (concs σ ns).length ≤ cur.size := by rw [concs_length, hnl, hcur, his, ← Nat.add_mul]; exact Nat.mul_le_mul_right _ hroom
          have hr := room_y (P := P) (w := w) t ty b.elem info hu hi (σ i).blk n (σ i).cap cur hg ad m c (concs σ ns) (by rw [his]; exact hfc) h1 hroom hfit
          refine ⟨_, _, σ, by rw [hconc, hcx]; exact hr, by simp [conc, Cap.val, h0], by simp only [V.lt, List.length_set]; exact hilt, ?_⟩
          refine h.move hb hm hni hno (fun _ _ => rfl) hwf rfl rfl rfl (by simp) (fun k _ hk' => setRow_other w _ k _ hk') (.inl rfl) ?_
          unfold Holds
          simp only [hk]
          refine ⟨h0, _, n + m, setRow_heap w _ _ _ _ _ hg, hsum, hroom, ?_, hmax, ?_⟩
          · simp only [List.size_toArray, List.length_append, List.length_take, List.length_drop, Array.length_toList]
            omega
          · simp only []
            rw [his, htake, concs_append, ← hsum]
            have : (b.cells ++ ns).length = (concs σ b.cells ++ concs σ ns).length := by simp [concs_length]
            rw [this]
            exact List.take_left
        · have hge := grownCap_ge w (n + m) (σ i).cap b.elem
          have hcm : grownCap w (n + m) (σ i).cap b.elem ≤ maxLen := grownCap_le_maxLen w (n + m) _ b.elem (by simp only [maxLen]; omega)
          have holds : ∀ j u, (concs σ b.cells)[j]? = some u → w.cell? ((⟨(σ i).blk, 0, none⟩ : Addr).add j) = some u := fun j u hu' => by
            have := (h.heap.holds i b hb).cell (by rw [hk]; rfl) hu'
            rw [addr_add, Nat.zero_add]
            rwa [h0, Nat.zero_add] at this
          have hr := grow_y (P := P) (w := w) t ty b.elem info zv hu hi hzv ⟨(σ i).blk, 0, none⟩ n (σ i).cap (concs σ b.cells) (by rw [concs_length, hlen, his]) holds ad m c (concs σ ns) (by rw [his]; exact hfd) (by omega) (by omega) (growslice_fits (by omega) (by rw [hib]; exact hbytes))
          let σ' : Nat → Loc := upσ σ i ⟨w.heap.size, 0, grownCap w (n + m) (σ i).cap b.elem⟩
          have hσ : ∀ j, j ≠ i → σ' j = σ j := fun j hj => by simp [σ', upσ, hj]
          have hσi : σ' i = ⟨w.heap.size, 0, grownCap w (n + m) (σ i).cap b.elem⟩ := by simp [σ', upσ]
          refine ⟨_, _, σ', by rw [hconc, hcx]; exact hr, by simp [conc, Cap.val, hσi], by simp only [V.lt, List.length_set]; exact hilt, ?_⟩
          refine h.move hb hm hni hno hσ hwf rfl rfl rfl (by simp) (fun k hk' _ => Below.heap_alloc w.drew _ k hk') (.inr (by rw [hσi]; exact Nat.le_refl _)) ?_
          unfold Holds
          simp only [hk]
          rw [hσi]
          refine ⟨rfl, _, n + m, heap_alloc_new w.drew _, hsum, hge, ?_, hcm, ?_⟩
          · simp only [Array.size_append, List.size_toArray, size_zeroCells, concs_length, hlen, hnl]
            have : zv.cells.size = z' := by rw [hzc σ]; simp [concs_length, hzl, his]
            rw [this, ← Nat.add_mul, ← Nat.add_mul]
            congr 1
            omega
          · rw [concs_noref hσ _ hnsno, concs_append]
            simp only [Array.toList_append, List.append_assoc]
            rw [← List.append_assoc, ← hsum]
            have : (b.cells ++ ns).length = (concs σ b.cells ++ concs σ ns).length := by simp [concs_length]
            rw [this]
            exact List.take_left
      · cases ha
    · cases ha
  · cases ha
end
end Go.Sx
namespace Go.Sx
open Go.RowKit
section
variable {P : Program} {E : En} {σ : Nat → Loc} {s : St} {a : Act} {w : World}
theorem get_app_cases {H : List Blk} {b x : Blk} {j : Nat} (hx : (H ++ [b])[j]? = some x) : (j < H.length ∧ H[j]? = some x) ∨ (j = H.length ∧ x = b) := by
  rcases Nat.lt_trichotomy j H.length with hi | hi | hi
  · rw [List.getElem?_append_left hi] at hx; exact .inl ⟨hi, hx⟩
  · subst hi; rw [List.getElem?_append_right (Nat.le_refl _)] at hx; simp at hx; exact .inr ⟨rfl, hx.symm⟩
  · rw [List.getElem?_eq_none (by simp; omega)] at hx; cases hx
theorem Rel.die (h : Rel E σ s a w) {i : Nat} {b b' : Blk} (hb : s.heap[i]? = some b) (hm : b.k.mut = true) {w' : World} (l : Loc) (hl : l.blk = (σ i).blk ∨ w.heap.size ≤ l.blk)
    (hwf : ∀ c ∈ b'.cells, V.lt s.heap.length c ∧ c.one = true)
    (os : w'.os = w.os) (tape : w'.tape = w.tape) (output : w'.output = w.output) (hs : w.heap.size ≤ w'.heap.size)
    (hk : ∀ k, k < w.heap.size → k ≠ (σ i).blk → w'.heap[k]? = w.heap[k]?)
    (hold : Holds (upσ σ s.heap.length l) w' s.heap.length b') :
    Rel E (upσ σ s.heap.length l) ⟨s.slots, s.heap.set i ⟨[], b.elem, .dead⟩ ++ [b']⟩ a w' := by
  have hlive : b.k.live = true := by cases hkk : b.k <;> simp_all [BK.mut, BK.live]
  have s1 : ∀ j, j < s.heap.length → upσ σ s.heap.length l j = σ j := fun j hj => upσ_lt _ _ _ _ hj
  have s2 : upσ σ s.heap.length l s.heap.length = l := upσ_same _ _ _
  have len1 : (s.heap.set i ⟨[], b.elem, .dead⟩).length = s.heap.length := List.length_set
  have cs : ∀ (j : Nat) (x : Blk), (s.heap.set i ⟨[], b.elem, .dead⟩ ++ [b'])[j]? = some x → (j < s.heap.length ∧ ((j ≠ i ∧ s.heap[j]? = some x) ∨ (j = i ∧ x = ⟨[], b.elem, .dead⟩))) ∨ (j = s.heap.length ∧ x = b') := by
    intro j x hx
    rcases get_app_cases hx with ⟨hj, hx⟩ | ⟨hj, hx⟩
    · rw [len1] at hj
      exact .inl ⟨hj, get_set_cases hx⟩
    · rw [len1] at hj; exact .inr ⟨hj, hx⟩
  refine ⟨h.defers, h.size, fun t v hv => ?_, fun v hv => ?_, ⟨fun j x hx => ?_, fun j1 j2 b1 b2 hne h1 h2 l1 m2 => ?_, fun j x hx c hc => ?_⟩, ?_, fun j hj => ?_, ?_, fun j x hx hmx => ?_⟩
  · rcases h.slots t v hv with e | e
    · exact .inl e
    · right; rw [e, conc_congr s1 v (h.lt v (List.mem_of_getElem? hv))]
  · exact V.lt_mono (by simp) _ (h.lt v hv)
  · rcases cs j x hx with ⟨hj, ⟨hne, hx⟩ | ⟨rfl, rfl⟩⟩ | ⟨rfl, rfl⟩
    · exact (h.heap.holds j x hx).congr (s1 j hj) (concs_congr s1 _ ((lts_iff _ _).2 fun c hc => (h.heap.wf j x hx c hc).1)) hs fun hl' => hk _ (h.heap.blk_lt hx hl') (h.heap.sep j i x b hne hx hb hl' hm)
    · exact trivial
    · exact hold
  · rcases cs j1 b1 h1 with ⟨g1, ⟨n1, x1⟩ | ⟨e1, x1⟩⟩ | ⟨e1, x1⟩ <;> rcases cs j2 b2 h2 with ⟨g2, ⟨n2, x2⟩ | ⟨e2, x2⟩⟩ | ⟨e2, x2⟩
    · rw [s1 j1 g1, s1 j2 g2]; exact h.heap.sep j1 j2 b1 b2 hne x1 x2 l1 m2
    · subst x2; cases m2
    · rw [s1 j1 g1, e2, s2]
      rcases hl with hl | hl
      · rw [hl]; exact h.heap.sep j1 i b1 b n1 x1 hb l1 hm
      · have := h.heap.blk_lt x1 l1; omega
    · subst x1; cases l1
    · subst x1; cases l1
    · subst x1; cases l1
    · rw [s1 j2 g2, e1, s2]
      rcases hl with hl | hl
      · rw [hl]; exact h.heap.sep i j2 b b2 (Ne.symm n2) hb x2 hlive m2
      · have := h.heap.blk_lt (i := j2) x2 (by cases hkk : b2.k <;> simp_all [BK.mut, BK.live]); omega
    · subst x2; cases m2
    · exact absurd (e1.trans e2.symm) hne
  · have hlen : (s.heap.set i ⟨[], b.elem, .dead⟩ ++ [b']).length = s.heap.length + 1 := by simp
    rw [hlen]
    rcases cs j x hx with ⟨hj, ⟨hne, hx⟩ | ⟨rfl, rfl⟩⟩ | ⟨rfl, rfl⟩
    · exact ⟨V.lt_mono (Nat.le_succ _) _ (h.heap.wf j x hx c hc).1, (h.heap.wf j x hx c hc).2⟩
    · cases hc
    · exact ⟨V.lt_mono (Nat.le_succ _) _ (hwf c hc).1, (hwf c hc).2⟩
  · simp only [List.length_append, List.length_set]; have := h.len; omega
  · rw [s1 j (by have := h.len; omega), h.agree j hj]
  · exact h.fr.step os tape output hs fun k hk' => by
      by_cases e : k = (σ i).blk
      · left; subst e; exact h.new i b hb hm
      · exact .inr (hk k hk' e)
  · rcases cs j x hx with ⟨hj, ⟨hne, hx⟩ | ⟨rfl, rfl⟩⟩ | ⟨rfl, rfl⟩
    · rw [s1 j hj]; exact h.new j x hx hmx
    · cases hmx
    · rw [s2]
      rcases hl with hl | hl
      · rw [hl]; exact h.new i b hb hm
      · left; exact Nat.le_trans h.fr.size hl

def appDie (P : Program) (s : St) (t : TypeId) (i len : Nat) (x : V) : Option (Prop × V × St) :=
  match slo P t with
  | some (e, z, by_) => match s.heap[i]?, newsV s.heap z x with
    | some b, some (p, m, ns) => match b.k with
      | .own z' => some (p ∧ z' = z ∧ (zeroL P e).isSome = true ∧ b.elem = e ∧ b.cells.length = len * z ∧ (len + m) * by_ ≤ 140737488355328 ∧ len + m ≤ 9223372036854775807, .s s.heap.length 0 (len + m) .w, ⟨s.slots, s.heap.set i ⟨[], b.elem, .dead⟩ ++ [⟨b.cells ++ ns, b.elem, b.k⟩]⟩)
      | _ => none
    | _, _ => none
  | none => none

theorem appDie_sound (h : Rel E σ s a w) {t : TypeId} {i len : Nat} {x v : V} {p : Prop} {s' : St} (ha : appDie P s t i len x = some (p, v, s')) (hp : p) (ty : TypeId) :
    ∃ v' w' σ', (Builtin.append_ #[t, t] ty #[conc σ (.s i 0 len .w), conc σ x]).run P w = .ok v' w' ∧ v' = conc σ' v ∧ v.lt s'.heap.length ∧ Rel E σ' s' a w' := by
  unfold appDie at ha
  split at ha
  · rename_i e z by_ hslo
    split at ha
    · rename_i b p' m ns hb hnews
      split at ha
      · rename_i z' hk
        simp only [Option.some.injEq, Prod.mk.injEq] at ha
        obtain ⟨rfl, rfl, rfl⟩ := ha
        obtain ⟨hp', rfl, hzero, rfl, hlen, hbytes, h63⟩ := hp
        obtain ⟨hu, hsz, hz0, info, hi, his, hib⟩ := slo_some hslo
        obtain ⟨ad, c, hcx, hnl, ⟨hfc, hfd⟩, hnwf⟩ := newsV_sound (P := P) h.heap hnews hp'
        obtain ⟨zs, hzs⟩ := Option.isSome_iff_exists.1 hzero
        obtain ⟨i', zv, hi', hzv, hzc, hzl, _⟩ := zeroL_some hzs
        rw [hi] at hi'
        cases hi'
        have hm : b.k.mut = true := by rw [hk]; rfl
        have hold := h.heap.holds i b hb
        unfold Holds at hold
        rw [hk] at hold
        obtain ⟨h0, cur, n, hg, hn, hcap, hcur, hmax, htake⟩ := hold
        have hnlen : n = len := by
          rw [hlen] at hn
          exact (Nat.eq_of_mul_eq_mul_right hz0 hn).symm
        subst hnlen
        have h1 : ∀ u ∈ concs σ ns, u.oneCell' = true := by
          intro u hu'
          rw [concs_eq] at hu'
          obtain ⟨d, hd, rfl⟩ := List.mem_map.1 hu'
          exact one_conc (hnwf d hd).2
        have hwf : ∀ d ∈ b.cells ++ ns, V.lt s.heap.length d ∧ d.one = true := fun d hd => by
          rcases List.mem_append.1 hd with hd | hd
          · exact h.heap.wf i b hb d hd
          · exact hnwf d hd
        have hcells' : ∀ l : Loc, concs (upσ σ s.heap.length l) (b.cells ++ ns) = concs σ (b.cells ++ ns) := fun l =>
          concs_congr (fun j hj => upσ_lt _ _ _ _ hj) _ ((lts_iff _ _).2 fun d hd => (hwf d hd).1)
        have hconc : conc σ (.s i 0 n .w) = .slice (some ⟨(σ i).blk, 0, none⟩) n (σ i).cap := by simp [conc, Cap.val, h0]
        have hsum : (b.cells ++ ns).length = (n + m) * z' := by rw [List.length_append, hlen, hnl, Nat.add_mul]
        by_cases hroom : n + m ≤ (σ i).cap
        · have hfit : n * info.size + (concs σ ns).length ≤ cur.size := by rw [concs_length, hnl, hcur, his, ← Nat.add_mul]; exact Nat.mul_le_mul_right _ hroom
          have hr := room_y (P := P) (w := w) t ty b.elem info hu hi (σ i).blk n (σ i).cap cur hg ad m c (concs σ ns) (by rw [his]; exact hfc) h1 hroom hfit
          refine ⟨_, _, upσ σ s.heap.length (σ i), by rw [hconc, hcx]; exact hr, by simp [conc, Cap.val, h0, upσ], by simp [V.lt], ?_⟩
          refine h.die hb hm (σ i) (.inl rfl) hwf rfl rfl rfl (by simp) (fun k _ hk' => setRow_other w _ k _ hk') ?_
          unfold Holds
          simp only [hk]
          rw [hcells', upσ_same]
          refine ⟨h0, _, n + m, setRow_heap w _ _ _ _ _ hg, hsum, hroom, ?_, hmax, ?_⟩
          · simp only [List.size_toArray, List.length_append, List.length_take, List.length_drop, Array.length_toList]
            omega
          · simp only []
            rw [his, htake, concs_append, ← hsum]
            have : (b.cells ++ ns).length = (concs σ b.cells ++ concs σ ns).length := by simp [concs_length]
            rw [this]
            exact List.take_left
        · have hge := grownCap_ge w (n + m) (σ i).cap b.elem
          have hcm : grownCap w (n + m) (σ i).cap b.elem ≤ maxLen := grownCap_le_maxLen w (n + m) _ b.elem (by simp only [maxLen]; omega)
          have holds : ∀ j u, (concs σ b.cells)[j]? = some u → w.cell? ((⟨(σ i).blk, 0, none⟩ : Addr).add j) = some u := fun j u hu' => by
            have := (h.heap.holds i b hb).cell (by rw [hk]; rfl) hu'
            rw [addr_add, Nat.zero_add]
            rwa [h0, Nat.zero_add] at this
          have hr := grow_y (P := P) (w := w) t ty b.elem info zv hu hi hzv ⟨(σ i).blk, 0, none⟩ n (σ i).cap (concs σ b.cells) (by rw [concs_length, hlen, his]) holds ad m c (concs σ ns) (by rw [his]; exact hfd) (by omega) (by omega) (growslice_fits (by omega) (by rw [hib]; exact hbytes))
          refine ⟨_, _, upσ σ s.heap.length ⟨w.heap.size, 0, grownCap w (n + m) (σ i).cap b.elem⟩, by rw [hconc, hcx]; exact hr, by simp [conc, Cap.val, upσ], by simp [V.lt], ?_⟩
          refine h.die hb hm _ (.inr (Nat.le_refl _)) hwf rfl rfl rfl (by simp) (fun k hk' _ => Below.heap_alloc w.drew _ k hk') ?_
          unfold Holds
          simp only [hk]
          rw [hcells', upσ_same]
          refine ⟨rfl, _, n + m, heap_alloc_new w.drew _, hsum, hge, ?_, hcm, ?_⟩
          · simp only [Array.size_append, List.size_toArray, size_zeroCells, concs_length, hlen, hnl]
            have : zv.cells.size = z' := by rw [hzc σ]; simp [concs_length, hzl, his]
            rw [this, ← Nat.add_mul, ← Nat.add_mul]
            congr 1
            omega
          · rw [concs_append]
            simp only [Array.toList_append, List.append_assoc]
            rw [← List.append_assoc, ← hsum]
            have : (b.cells ++ ns).length = (concs σ b.cells ++ concs σ ns).length := by simp [concs_length]
            rw [this]
            exact List.take_left
      · cases ha
    · cases ha
  · cases ha
end
end Go.Sx
namespace Go.Sx
open Go.RowKit
section
variable {P : Program} {E : En} {σ : Nat → Loc} {s : St} {a : Act} {w : World}

theorem Rel.newOwnDrew (h : Rel E σ s a w) (cells : List V) (t : TypeId) (z n cap : Nat) (junk : List Value) (hn : cells.length = n * z) (hle : n ≤ cap) (hm : cap ≤ maxLen) (hj : n * z + junk.length = cap * z)
    (hwf : ∀ c ∈ cells, V.lt s.heap.length c ∧ c.one = true) :
    ∃ σ', (∀ i, i < s.heap.length → σ' i = σ i) ∧ σ' s.heap.length = ⟨w.heap.size, 0, cap⟩ ∧ Rel E σ' ⟨s.slots, s.heap ++ [⟨cells, t, .own z⟩]⟩ a (w.drew.alloc (.cells (concs σ cells ++ junk).toArray t)) := by
  have hd : Rel E σ s a w.drew := h.world (fun _ _ => rfl) (Nat.le_refl _) (h.heap.keep (fun _ _ => rfl) (Nat.le_refl _) (fun _ _ _ _ => rfl)) rfl rfl rfl (Nat.le_refl _) (fun _ _ => .inr rfl) h.new
  refine ⟨upσ σ s.heap.length ⟨w.heap.size, 0, cap⟩, fun i hi => upσ_lt _ _ _ _ hi, upσ_same _ _ _, ?_⟩
  refine hd.alloc ⟨cells, t, .own z⟩ (concs σ cells ++ junk).toArray cap hwf ?_
  show (_ ∧ _)
  rw [upσ_same]
  refine ⟨rfl, (concs σ cells ++ junk).toArray, n, heap_alloc_new w.drew _, hn, hle, ?_, hm, ?_⟩
  · simp only [List.size_toArray, List.length_append, concs_length]; omega
  · rw [concs_congr (σ := σ) (fun i hi => upσ_lt _ _ _ _ hi) cells ((lts_iff _ _).2 fun c hc => (hwf c hc).1)]
    show (concs σ cells ++ junk).take (n * z) = concs σ cells
    rw [← hn, ← concs_length σ cells]
    exact List.take_left

def appNew (P : Program) (s : St) (t : TypeId) (x : V) : V → Option (Prop × V × St)
  | .v (.slice none 0 0) => match slo P t with
    | some (e, z, by_) => match newsV s.heap z x with
      | some (p, m, ns) => if m = 0 then some (p, .v (.slice none 0 0), s) else some (p ∧ (zeroL P e).isSome = true ∧ 0 < m ∧ m * by_ ≤ 140737488355328 ∧ m ≤ 9223372036854775807, .s s.heap.length 0 m (.u 0), ⟨s.slots, s.heap ++ [⟨ns, e, .own z⟩]⟩)
      | none => none
    | none => none
  | .s i off len (.k c) => match slo P t with
    | some (e, z, by_) => match s.heap[i]?, newsV s.heap z x with
      | some b, some (p, m, ns) => if m = 0 then some (p ∧ i < s.heap.length ∧ len ≤ c, .s i off len (.k c), s) else some (p ∧ (zeroL P e).isSome = true ∧ b.k.live = true ∧ off + len * z ≤ b.cells.length ∧ c < len + m ∧ (len + m) * by_ ≤ 140737488355328 ∧ len + m ≤ 9223372036854775807,
          .s s.heap.length 0 (len + m) (.u 0), ⟨s.slots, s.heap ++ [⟨seg b.cells off (len * z) ++ ns, e, .own z⟩]⟩)
      | _, _ => none
    | none => none
  | _ => none

theorem appNew_sound (h : Rel E σ s a w) {t : TypeId} {x y v : V} {p : Prop} {s' : St} (ha : appNew P s t x y = some (p, v, s')) (hp : p) (ty : TypeId) :
    ∃ v' w' σ', (Builtin.append_ #[t, t] ty #[conc σ y, conc σ x]).run P w = .ok v' w' ∧ v' = conc σ' v ∧ v.lt s'.heap.length ∧ Rel E σ' s' a w' := by
  unfold appNew at ha
  split at ha
  · split at ha
    · rename_i e z by_ hslo
      split at ha
      · rename_i p' m ns hnews
        split at ha
        · rename_i hm
          subst hm
          simp only [Option.some.injEq, Prod.mk.injEq] at ha
          obtain ⟨rfl, rfl, rfl⟩ := ha
          obtain ⟨hu, hsz, hz0, info, hi, his, hib⟩ := slo_some hslo
          obtain ⟨ad, c, hcx, hnl, ⟨hfc, hfd⟩, hnwf⟩ := newsV_sound (P := P) h.heap hnews hp
          have e0 : ns = [] := by cases ns with | nil => rfl | cons a b => simp at hnl
          subst e0
          exact ⟨_, _, σ, by rw [hcx]; exact same_y t ty e info hu hi none 0 0 (Nat.le_refl _) ad c (by rw [his]; exact hfc), rfl, rfl, h⟩
        simp only [Option.some.injEq, Prod.mk.injEq] at ha
        obtain ⟨rfl, rfl, rfl⟩ := ha
        obtain ⟨hp', hzero, hm0, hbytes, h63⟩ := hp
        obtain ⟨hu, hsz, hz0, info, hi, his, hib⟩ := slo_some hslo
        obtain ⟨ad, c, hcx, hnl, ⟨hfc, hfd⟩, hnwf⟩ := newsV_sound (P := P) h.heap hnews hp'
        obtain ⟨zs, hzs⟩ := Option.isSome_iff_exists.1 hzero
        obtain ⟨i', zv, hi', hzv, hzc, hzl, _⟩ := zeroL_some hzs
        rw [hi] at hi'
        cases hi'
        have hge := grownCap_ge w m 0 e
        have hcm : grownCap w m 0 e ≤ maxLen := grownCap_le_maxLen w m _ e (by simp only [maxLen]; omega)
        have hr := nil_y (P := P) (w := w) t ty e info zv hu hi hzv ad m c (concs σ ns) (by rw [his]; exact hfd) (by omega) (by omega) (by rw [hib]; omega)
        obtain ⟨σ', h1, h2, h3⟩ := h.newOwnDrew ns e z m (grownCap w m 0 e) (Builtin.zeroCells zv.cells (grownCap w m 0 e - m)).toList hnl hge hcm (by
          simp only [Array.length_toList, size_zeroCells]
          have : zv.cells.size = z := by rw [hzc σ]; simp [concs_length, hzl, his]
          rw [this, ← Nat.add_mul]; congr 1; omega) hnwf
        refine ⟨_, _, σ', by rw [hcx]; exact hr, by simp [conc, Cap.val, h2], by simp [V.lt], ?_⟩
        have e : (concs σ ns).toArray ++ Builtin.zeroCells zv.cells (grownCap w m 0 e - m) = (concs σ ns ++ (Builtin.zeroCells zv.cells (grownCap w m 0 e - m)).toList).toArray := by
          apply Array.ext'; simp
        rw [e]; exact h3
      · cases ha
    · cases ha
  · split at ha
    · rename_i i off len cc _ e z by_ hslo
      split at ha
      · rename_i b p' m ns hb hnews
        split at ha
        · rename_i hm
          subst hm
          simp only [Option.some.injEq, Prod.mk.injEq] at ha
          obtain ⟨rfl, rfl, rfl⟩ := ha
          obtain ⟨hu, hsz, hz0, info, hi, his, hib⟩ := slo_some hslo
          obtain ⟨hp', hilt, hle⟩ := hp
          obtain ⟨ad, c, hcx, hnl, ⟨hfc, hfd⟩, hnwf⟩ := newsV_sound (P := P) h.heap hnews hp'
          have e0 : ns = [] := by cases ns with | nil => rfl | cons a b => simp at hnl
          subst e0
          exact ⟨_, _, σ, by rw [hcx]; exact same_y t ty e info hu hi _ len cc hle ad c (by rw [his]; exact hfc), rfl, hilt, h⟩
        simp only [Option.some.injEq, Prod.mk.injEq] at ha
        obtain ⟨rfl, rfl, rfl⟩ := ha
        obtain ⟨hp', hzero, hlive, hfit, hcc, hbytes, h63⟩ := hp
        obtain ⟨hu, hsz, hz0, info, hi, his, hib⟩ := slo_some hslo
        obtain ⟨ad, c, hcx, hnl, ⟨hfc, hfd⟩, hnwf⟩ := newsV_sound (P := P) h.heap hnews hp'
        obtain ⟨zs, hzs⟩ := Option.isSome_iff_exists.1 hzero
        obtain ⟨i', zv, hi', hzv, hzc, hzl, _⟩ := zeroL_some hzs
        rw [hi] at hi'
        cases hi'
        have hge := grownCap_ge w (len + m) cc e
        have hcm : grownCap w (len + m) cc e ≤ maxLen := grownCap_le_maxLen w (len + m) _ e (by simp only [maxLen]; omega)
        have hsl : (seg b.cells off (len * z)).length = len * z := by unfold seg; rw [List.length_take, List.length_drop]; omega
        have holds : ∀ j u, (concs σ (seg b.cells off (len * z)))[j]? = some u → w.cell? ((⟨(σ i).blk, (σ i).off + off, none⟩ : Addr).add j) = some u := fun j u hu' => by
          rw [addr_add, Nat.add_assoc]
          refine (h.heap.holds i b hb).cell hlive ?_
          rw [concs_seg, List.getElem?_take] at hu'
          split at hu'
          · rw [List.getElem?_drop] at hu'; exact hu'
          · cases hu'
        have hr := grow_y (P := P) (w := w) t ty e info zv hu hi hzv ⟨(σ i).blk, (σ i).off + off, none⟩ len cc (concs σ (seg b.cells off (len * z))) (by rw [concs_length, hsl, his]) holds ad m c (concs σ ns) (by rw [his]; exact hfd) (by omega) (by omega) (growslice_fits (by omega) (by rw [hib]; exact hbytes))
        have hwf : ∀ d ∈ seg b.cells off (len * z) ++ ns, V.lt s.heap.length d ∧ d.one = true := fun d hd => by
          rcases List.mem_append.1 hd with hd | hd
          · exact h.heap.wf i b hb d (List.mem_of_mem_drop (List.mem_of_mem_take hd))
          · exact hnwf d hd
        obtain ⟨σ', h1, h2, h3⟩ := h.newOwnDrew (seg b.cells off (len * z) ++ ns) e z (len + m) (grownCap w (len + m) cc e) (Builtin.zeroCells zv.cells (grownCap w (len + m) cc e - (len + m))).toList
          (by rw [List.length_append, hsl, hnl, Nat.add_mul]) hge hcm (by
          simp only [Array.length_toList, size_zeroCells]
          have : zv.cells.size = z := by rw [hzc σ]; simp [concs_length, hzl, his]
          rw [this, ← Nat.add_mul]; congr 1; omega) hwf
        refine ⟨_, _, σ', by rw [hcx]; exact hr, by simp [conc, Cap.val, h2], by simp [V.lt], ?_⟩
        have e : (concs σ (seg b.cells off (len * z))).toArray ++ (concs σ ns).toArray ++ Builtin.zeroCells zv.cells (grownCap w (len + m) cc e - (len + m)) = (concs σ (seg b.cells off (len * z) ++ ns) ++ (Builtin.zeroCells zv.cells (grownCap w (len + m) cc e - (len + m))).toList).toArray := by
          apply Array.ext'; simp [concs_append]
        rw [e]; exact h3
      · cases ha
    · cases ha
  · cases ha

def appIn (P : Program) (s : St) (t : TypeId) (i off len c : Nat) (x : V) : Option (Prop × V × St) :=
  match slo P t with
  | some (_, z, _) => match s.heap[i]?, newsV s.heap z x with
    | some b, some (p, m, ns) => match b.k with
      | .own z' => some (p ∧ z' = z ∧ (c + len + m) * z ≤ b.cells.length ∧ off + (len + m) * z ≤ b.cells.length, .s i off (len + m) (.i c), ⟨s.slots, s.heap.set i { b with cells := wr b.cells (off + len * z) ns }⟩)
      | _ => none
    | _, _ => none
  | none => none
theorem appIn_sound (h : Rel E σ s a w) {t : TypeId} {i off len c : Nat} {x v : V} {p : Prop} {s' : St} (ha : appIn P s t i off len c x = some (p, v, s')) (hp : p) (ty : TypeId) :
    ∃ v' w' σ', (Builtin.append_ #[t, t] ty #[conc σ (.s i off len (.i c)), conc σ x]).run P w = .ok v' w' ∧ v' = conc σ' v ∧ v.lt s'.heap.length ∧ Rel E σ' s' a w' := by
  unfold appIn at ha
  split at ha
  · rename_i e z by_ hslo
    split at ha
    · rename_i b p' m ns hb hnews
      split at ha
      · rename_i z' hk
        simp only [Option.some.injEq, Prod.mk.injEq] at ha
        obtain ⟨rfl, rfl, rfl⟩ := ha
        obtain ⟨hp', rfl, hcap, hfit⟩ := hp
        obtain ⟨hu, hsz, hz0, info, hi, his, hib⟩ := slo_some hslo
        obtain ⟨ad, cx, hcx, hnl, ⟨hfc, hfd⟩, hnwf⟩ := newsV_sound (P := P) h.heap hnews hp'
        have hm : b.k.mut = true := by rw [hk]; rfl
        have hilt : i < s.heap.length := (List.getElem?_eq_some_iff.1 hb).1
        have hold := h.heap.holds i b hb
        unfold Holds at hold
        rw [hk] at hold
        obtain ⟨h0, cur, n, hg, hn, hc2, hcur, hmax, htake⟩ := hold
        have hroom : len + m ≤ (σ i).cap - c := by
          rw [hn] at hcap
          have := Nat.le_of_mul_le_mul_right hcap hz0
          omega
        have hadd : off + len * z' + ns.length ≤ b.cells.length := by rw [hnl, Nat.add_assoc, ← Nat.add_mul]; exact hfit
        obtain ⟨w', hst, hrel⟩ := h.storeCells (P := P) hb hm (off := off + len * z') ns hadd hnwf
        refine ⟨.slice (some ⟨(σ i).blk, (σ i).off + off, none⟩) (len + m) ((σ i).cap - c), w', σ, ?_, rfl, by simp only [V.lt, List.length_set]; exact hilt, hrel⟩
        rw [hcx]
        have hst' : (storeCells ((⟨(σ i).blk, (σ i).off + off, none⟩ : Addr).add (len * z')) (concs σ ns)).run P w = .ok () w' := by rw [addr_add, Nat.add_assoc]; exact hst
        simp [conc, Cap.val, Builtin.append_, run_underlying hu, sizeOf, typeInfo, hi, his, Builtin.lenOf, hroom, hfc, hst']
      · cases ha
    · cases ha
  · cases ha

def mko (P : Program) (t : TypeId) : Option IntKind := match P.underlying t with | some (.int k) => some k | _ => none
def appMake (P : Program) (s : St) (t t' : TypeId) : V → V → Option (Prop × V × St)
  | .v (.slice none 0 0), .v (.int _ n) => match mko P t', slo P t with
    | some _, some (e, z, by_) => match zeroL P e with
      | some zs => some (0 < n ∧ n ≤ 9223372036854775807 ∧ n.toNat * by_ ≤ 140737488355328, .s s.heap.length 0 n.toNat (.u 0), ⟨s.slots, s.heap ++ [⟨zerosL zs n.toNat, e, .own z⟩]⟩)
      | none => none
    | _, _ => none
  | _, _ => none
theorem appMake_sound (h : Rel E σ s a w) {t t' : TypeId} {x y v : V} {p : Prop} {s' : St} (ha : appMake P s t t' y x = some (p, v, s')) (hp : p) (ty : TypeId) :
    ∃ v' w' σ', (Builtin.append_ #[t, t'] ty #[conc σ y, conc σ x]).run P w = .ok v' w' ∧ v' = conc σ' v ∧ v.lt s'.heap.length ∧ Rel E σ' s' a w' := by
  unfold appMake at ha
  split at ha
  · rename_i kd n
    split at ha
    · rename_i k e z by_ hmk hslo
      split at ha
      · rename_i zs hzs
        simp only [Option.some.injEq, Prod.mk.injEq] at ha
        obtain ⟨rfl, rfl, rfl⟩ := ha
        obtain ⟨hn0, h63, hbytes⟩ := hp
        obtain ⟨hu, hsz, hz0, info, hi, his, hib⟩ := slo_some hslo
        obtain ⟨i', zv, hi', hzv, hzc, hzl, hz1⟩ := zeroL_some hzs
        rw [hi] at hi'
        cases hi'
        have hut : ∃ k, P.underlying t' = some (.int k) := by
          unfold mko at hmk
          split at hmk
          · rename_i k hk; exact ⟨k, hk⟩
          · cases hmk
        obtain ⟨k, hk⟩ := hut
        have hm0 : 0 < n.toNat := by omega
        have hge := grownCap_ge w n.toNat 0 e
        have hcm : grownCap w n.toNat 0 e ≤ maxLen := grownCap_le_maxLen w n.toNat _ e (by simp only [maxLen]; omega)
        have hzsz : zv.cells.size = z := by rw [hzc σ]; simp [concs_length, hzl, his]
        have hzz : zs.length = z := by rw [← hzsz, hzc σ]; simp [concs_length]
        obtain ⟨σ', h1, h2, h3⟩ := h.newOwnDrew (zerosL zs n.toNat) e z n.toNat (grownCap w n.toNat 0 e) (Builtin.zeroCells zv.cells (grownCap w n.toNat 0 e - n.toNat)).toList
          (by rw [zerosL_length, hzz]) hge hcm (by
          simp only [Array.length_toList, size_zeroCells]
          rw [hzsz, ← Nat.add_mul]; congr 1; omega) (fun c hc => ⟨(hz1 c (zerosL_mem hc)).1 _, (hz1 c (zerosL_mem hc)).2⟩)
        refine ⟨.slice (some ⟨w.heap.size, 0, none⟩) n.toNat (grownCap w n.toNat 0 e), _, σ', ?_, by simp [conc, Cap.val, h2], by simp [V.lt], h3⟩
        have w1 : IntKind.i64.wrap n = n := wrap_in64 ⟨by omega, h63⟩
        have c1 : ¬ n < 0 := by omega
        have hbn : (n * (info.bytes : Int)) = ((n.toNat * info.bytes : Nat) : Int) := by
          rw [Int.natCast_mul, Int.toNat_of_nonneg (by omega)]
        have c2 : ¬ n * (info.bytes : Int) > 281474976710656 := by rw [hbn, hib]; omega
        have c3 : ¬ n.toNat = 0 := by omega
        have c4 : ¬ (9223372036854775807 < (n.toNat : Int)) := by omega
        have c5 : ¬ (281474976710656 < Builtin.nextslicecap n.toNat 0 * info.bytes) := by rw [nextslicecap_zero hm0, hib]; omega
        have c6 : ¬ n.toNat * info.size = 0 := by rw [his]; intro e; rcases Nat.mul_eq_zero.1 e with e | e <;> omega
        have ez : (concs σ (zerosL zs n.toNat) ++ (Builtin.zeroCells zv.cells (grownCap w n.toNat 0 e - n.toNat)).toList).toArray = Builtin.zeroCells zv.cells n.toNat ++ Builtin.zeroCells zv.cells (grownCap w n.toNat 0 e - n.toNat) := by
          have hz := zerosL_conc σ zs n.toNat zv.cells (hzc σ)
          have hz2 : (Builtin.zeroCells zv.cells n.toNat).toList = concs σ (zerosL zs n.toNat) := by
            have e3 : n.toNat * zv.cells.size = n.toNat * zs.length := by rw [hzsz, hzz]
            unfold Builtin.zeroCells
            rw [e3, hz]
          apply Array.ext'
          rw [Array.toList_append, hz2]
        have d1 : n ≤ 0 ↔ False := ⟨fun h => by omega, False.elim⟩
        have d2 : (9223372036854775807 < max n 0) ↔ False := ⟨fun h => by omega, False.elim⟩
        rw [ez]
        simp [d1, d2, conc, Builtin.append_, run_underlying hu, run_underlying hk, sizeOf, typeInfo, zeroValue, hi, hzv, asInt, asIntOf, w1, c1, c2, c3, c4, c5, c6, Question.forced, run_firstCells_none, newRow, grownCap]
      · cases ha
    · cases ha
  · cases ha

def bslV (P : Program) (n : Nat) (t : TypeId) (len : Nat) (parts : List (Nat × V)) : Option (Prop × V × Blk) :=
  match slo P t with
  | some (e, z, _) => match zeroL P e with
    | some zs => (fillV (fun i => some (i * z, z)) (zerosL zs len) parts).map fun q => ((len * z ≤ 16777216 ∧ q.1), .s n 0 len (.u 0), ⟨q.2, e, .own z⟩)
    | none => none
  | none => none

theorem bslV_sound (h : Rel E σ s a w) {t : TypeId} {len : Nat} {parts : List (Nat × V)} {pv : List (Nat × Value)} {p : Prop} {v : V} {b : Blk} (hb : bslV P s.heap.length t len parts = some (p, v, b)) (hp : p) (hl : ∀ x ∈ parts, V.lt s.heap.length x.2)
    (hm : parts.length = pv.length ∧ ∀ (j : Nat) (x : Nat × V) (y : Nat × Value), parts[j]? = some x → pv[j]? = some y → y.1 = x.1 ∧ Mt σ x.2 y.2) :
    ∃ v' w' σ', (Instr.buildSlice t len pv.toArray).run P w = .ok v' w' ∧ v' = conc σ' v ∧ v.lt (s.heap.length + 1) ∧ Rel E σ' ⟨s.slots, s.heap ++ [b]⟩ a w' ∧ (∀ i, i < s.heap.length → σ' i = σ i) := by
  unfold bslV at hb
  split at hb
  · rename_i e z by_ hslo
    split at hb
    · rename_i zs hzs
      obtain ⟨⟨q1, q2⟩, hq, hb⟩ := Option.map_eq_some_iff.1 hb
      cases hb
      obtain ⟨hlen, hq1⟩ := hp
      obtain ⟨hu, hsz, hz0, info, hi, his, hib⟩ := slo_some hslo
      obtain ⟨i', zv, hi', hzv, hzc, hzl, hzm⟩ := zeroL_some hzs
      rw [hi] at hi'
      cases hi'
      have hf := fillV_sound σ s.heap.length parts pv (zerosL zs len) q2 q1 hq hq1 hl hm
      obtain ⟨hql, hqm⟩ := fillV_mem parts (zerosL zs len) q2 q1 hq hq1
      have hzl' : zs.length = z := by rw [hzl, his]
      have hwf : ∀ c ∈ q2, V.lt s.heap.length c ∧ c.one = true := fun c hc => by
        rcases hqm c hc with h1 | ⟨x, hx, h1, h2⟩
        · have := zerosL_mem h1; exact ⟨(hzm c this).1 _, (hzm c this).2⟩
        · exact cellsL_wf h1 (hl x hx) c h2
      obtain ⟨σ', h1, h2, h3⟩ := h.newOwn q2 e z len (by rw [hql, zerosL_length, hzl']) (by simp only [maxLen]; have : len ≤ len * z := Nat.le_mul_of_pos_right _ hz0; omega) hwf
      refine ⟨.slice (some ⟨w.heap.size, 0, none⟩) len len, _, σ', ?_, by simp [conc, Cap.val, h2], by simp [V.lt], h3, h1⟩
      have hnot : ¬ (len * z > 2 ^ 24) := by omega
      simp only [Instr.buildSlice, Sem.run_bind, run_underlying hu, Result.andThen_ok, run_szo hsz, if_neg hnot]
      by_cases h0 : len * z = 0
      · have hz : (Array.range (len * z)).map (fun x => (#[] : Array Value)[x % (#[] : Array Value).size]!) = (concs σ (zerosL zs len)).toArray := by
          have e0 : (concs σ (zerosL zs len)) = [] := List.eq_nil_of_length_eq_zero (by rw [concs_length, zerosL_length, hzl', h0])
          rw [e0, h0]; simp
        simp only [if_pos h0, Sem.run_pure, Result.andThen_ok, hz, hf, Sem.run_bind, newRow, run_newObj]
        rfl
      · have hz := zerosL_conc σ zs len zv.cells (hzc σ)
        rw [hzl'] at hz
        simp only [if_neg h0, Sem.run_bind, zeroValue, typeInfo, run_program, Result.andThen_ok, hi, hzv, Sem.run_pure, hz, hf, newRow, run_newObj]
        rfl
    · cases hb
  · cases hb
end
end Go.Sx
/- Strings to bytes, and back. -/
namespace Go.Sx
open Go.RowKit
section
variable {P : Program} {E : En} {σ : Nat → Loc} {s : St} {a : Act} {w : World}
def strC (z : ByteArray) : List V := z.data.toList.map fun b => .v (.int .u8 (b.toNat : Int))
theorem strC_length (z : ByteArray) : (strC z).length = z.size := by simp [strC]
def u8s : List V → Option (List Int)
  | [] => some []
  | .v (.int .u8 n) :: r => (u8s r).map (n :: ·)
  | _ :: _ => none
def bstr (ns : List Int) : ByteArray := ⟨(ns.map fun n => UInt8.ofNat n.toNat).toArray⟩
def bySl (P : Program) (t : TypeId) : Option TypeId := match P.underlying t with
  | some (.slice e) => match P.underlying e with
    | some (.int .u8) => some e
    | _ => none
  | _ => none
def strT (P : Program) (t : TypeId) : Bool := match P.underlying t with | some .string => true | _ => false
theorem bySl_some {t e : TypeId} (h : bySl P t = some e) : P.underlying t = some (.slice e) ∧ P.underlying e = some (.int .u8) := by
  unfold bySl at h
  split at h
  · rename_i e' h1
    split at h
    · rename_i h2; cases h; exact ⟨h1, h2⟩
    · cases h
  · cases h
theorem strT_true {t : TypeId} (h : strT P t = true) : P.underlying t = some .string := by
  unfold strT at h
  split at h
  · rename_i h1; exact h1
  · cases h
theorem u8s_conc (σ : Nat → Loc) : ∀ {l : List V} {ns : List Int}, u8s l = some ns → concs σ l = ns.map (Value.int .u8)
  | [], ns, h => by simp [u8s] at h; subst h; rfl
  | x :: r, ns, h => by
    unfold u8s at h
    split at h
    · rename_i e; cases e
    · rename_i n r' e
      cases e
      obtain ⟨m, hm, rfl⟩ := Option.map_eq_some_iff.1 h
      rw [concs, u8s_conc σ hm]; rfl
    · cases h
theorem foldl_bstr : ∀ (ns : List Int) (r : ByteArray), ns.foldl (fun r n => r.push (UInt8.ofNat n.toNat)) r = ⟨r.data ++ (ns.map fun n => UInt8.ofNat n.toNat).toArray⟩
  | [], r => by simp
  | n :: ns, r => by
    simp only [List.foldl_cons]
    rw [foldl_bstr ns]
    simp [ByteArray.push]
def cvV (P : Program) (s : St) (src dst : TypeId) (x : V) : Option (Prop × V × St) := match convV P src dst x with
  | some q => some (q.1, q.2, s)
  | none => match x with
    | .v (.string z) => match strT P src, bySl P dst with
      | true, some e => some (True, .s s.heap.length 0 z.size .w, ⟨s.slots, s.heap ++ [⟨strC z, e, .byt⟩]⟩)
      | _, _ => none
    | .s i off len _ => match bySl P src, strT P dst, s.heap[i]? with
      | some _, true, some b => match u8s (seg b.cells off len) with
        | some ns => some (b.k.live = true ∧ off + len ≤ b.cells.length, .v (.string (bstr ns)), s)
        | none => none
      | _, _, _ => none
    | .v (.slice none 0 0) => match bySl P src, strT P dst with
      | some _, true => some (True, .v (.string .empty), s)
      | _, _ => none
    | _ => none
theorem cvV_any (src dst : TypeId) : cvV P s src dst .any = none := rfl
theorem cvV_sound (h : Rel E σ s a w) {src dst : TypeId} {x v : V} {p : Prop} {s' : St} (hc : cvV P s src dst x = some (p, v, s')) (hp : p) (hx : x.lt s.heap.length) :
    ∃ v' w' σ', (convert src dst (conc σ x)).run P w = .ok v' w' ∧ v' = conc σ' v ∧ v.lt s'.heap.length ∧ Rel E σ' s' a w' := by
  unfold cvV at hc
  split at hc
  · rename_i q hq
    obtain ⟨q1, q2⟩ := q
    cases hc
    refine ⟨_, w, σ, convV_sound σ hq hp w, rfl, ?_, h⟩
    unfold convV at hq
    (repeat' split at hq) <;> first | (cases hq; done) | (simp only [Option.some.injEq, Prod.mk.injEq] at hq; obtain ⟨_, rfl⟩ := hq; rfl) | (simp only [Option.some.injEq] at hq; exact fitI_lt' hq _)
  · split at hc
    · rename_i z _
      split at hc
      · rename_i e hs hd
        cases hc
        obtain ⟨hd1, hd2⟩ := bySl_some hd
        have hrun := Lib.run_convert_string_bytes (P := P) w src dst e z (strT_true hs) hd1 hd2
        refine ⟨_, Lib.bytesWorld w e z, upσ σ s.heap.length ⟨w.heap.size, 0, grownCap w z.size 0 e⟩, hrun, ?_, by simp [V.lt], ?_⟩
        · simp [conc, Cap.val, upσ_same]
        have hb : ∀ k, k < w.heap.size → (Lib.bytesWorld w e z).heap[k]? = w.heap[k]? := fun k hk => Lib.bytesWorld_at_old w e z k hk
        have hsz : w.heap.size ≤ (Lib.bytesWorld w e z).heap.size := by rw [Lib.bytesWorld_size]; omega
        have ha : ∀ i, i < s.heap.length → upσ σ s.heap.length ⟨w.heap.size, 0, grownCap w z.size 0 e⟩ i = σ i := fun i hi => upσ_lt _ _ _ _ hi
        have hone : ∀ c ∈ strC z, ∀ n, V.lt n c ∧ c.one = true := fun c hc n => by
          obtain ⟨b, _, rfl⟩ := List.mem_map.1 hc
          exact ⟨rfl, rfl⟩
        refine h.world ha (by simp) (h.heap.push ha hsz hb (by rw [upσ_same]; exact Nat.le_refl _) ?_ fun c hc => hone c hc _) ?_ ?_ ?_ hsz (fun k hk => .inr (hb k hk)) ?_
        · show (_ ∧ _)
          rw [upσ_same]
          refine ⟨rfl, Lib.bytesCells w e z, _, Lib.bytesWorld_at_new w e z, ?_, Nat.le_refl _, ?_⟩
          · rw [strC_length]; simp [Lib.bytesCells]
          · show (Lib.bytesCells w e z).toList.take (strC z).length = concs _ (strC z)
            rw [concs_eq]
            simp [Lib.bytesCells, strC, conc, Function.comp_def]
        · simp [Lib.bytesWorld, World.freeze, World.alloc, World.drew, -World.alloc_eq, -World.drew_eq]
        · simp [Lib.bytesWorld, World.freeze, World.alloc, World.drew, -World.alloc_eq, -World.drew_eq]
        · simp [Lib.bytesWorld, World.freeze, World.alloc, World.drew, -World.alloc_eq, -World.drew_eq]
        · intro i b hi hm
          rcases get_app_cases hi with ⟨hlt, hi⟩ | ⟨rfl, rfl⟩
          · rw [ha i hlt]; exact h.new i b hi hm
          · left; rw [upσ_same]; exact h.fr.size
      · cases hc
    · rename_i i off len c _
      split at hc
      · rename_i e b hs hd hi
        split at hc
        · rename_i ns hu
          cases hc
          obtain ⟨hs1, hs2⟩ := bySl_some hs
          refine ⟨_, w, σ, ?_, rfl, rfl, h⟩
          simp only [conc]
          rw [run_convert_bytes_string w src dst e _ len _ hs1 hs2 (strT_true hd)]
          have hcs := u8s_conc σ hu
          rw [concs_seg] at hcs
          have hlen : (ns.map (Value.int .u8)).length = len := by
            rw [← hcs, List.length_take, List.length_drop, concs_length]; omega
          have hl := run_loadCells_list (P := P) (w := w) ⟨(σ i).blk, (σ i).off + off, none⟩ (ns.map (Value.int .u8)) (fun j v hj => by
            have := (h.heap.holds i b hi).cell (w := w) hp.1 (j := off + j) (u := v) (by
              rw [← hcs, List.getElem?_take] at hj
              split at hj
              · rw [List.getElem?_drop] at hj; exact hj
              · cases hj)
            rw [addr_add, Nat.add_assoc]; exact this)
          rw [hlen] at hl
          rw [run_bytesToString w _ len _ ns hl, foldl_bstr]
          have he0 : ByteArray.empty.data = #[] := rfl
          rw [he0]
          simp [bstr]
        · cases hc
      · cases hc
    · split at hc
      · rename_i e hs hd
        cases hc
        obtain ⟨hs1, hs2⟩ := bySl_some hs
        refine ⟨_, w, σ, ?_, rfl, rfl, h⟩
        simp only [conc]
        rw [run_convert_bytes_string w src dst e _ 0 _ hs1 hs2 (strT_true hd)]
        rfl
      · cases hc
    · cases hc
end
/- The rules. -/
section
variable (P : Program) (src dst : TypeId) (s : St) (z : ByteArray) (kd : IntKind) (n : Int) (i off len e : Nat) (c : Cap) (q : Prop × V) (b : Blk) (ns : List Int) (p : Prop)
def cvO (s : St) : Option (Prop × V) → Option (Prop × V × St)
  | some q => some (q.1, q.2, s)
  | none => none
theorem cvO_some : cvO s (some q) = some (q.1, q.2, s) := rfl
theorem cvV_int : cvV P s src dst (.v (.int kd n)) = cvO s (convV P src dst (.v (.int kd n))) := by
  unfold cvV cvO
  cases convV P src dst (.v (.int kd n)) <;> rfl
end
end Go.Sx
namespace Go.Sx
open Go.RowKit
section
variable {P : Program} {E : En} {σ : Nat → Loc} {s : St} {a : Act} {w : World}

def mkV (P : Program) (n : Nat) (t : TypeId) : V → V → Option (Prop × V × Blk)
  | .v (.int _ l), .v (.int _ c) => match slo P t with
    | some (e, _, by_) => match zeroL P e with
      | some zs => some (0 ≤ l ∧ l ≤ c ∧ c ≤ 140737488355328 ∧ c * by_ ≤ 281474976710656, .s n 0 l.toNat (.k c.toNat), ⟨zerosL zs c.toNat, e, .fix⟩)
      | none => none
    | none => none
  | _, _ => none

theorem mkV_sound (h : Rel E σ s a w) {t : TypeId} {x y v : V} {p : Prop} {b : Blk} (hb : mkV P s.heap.length t x y = some (p, v, b)) (hp : p) :
    ∃ v' w' σ', (Instr.makeSlice t (conc σ x) (conc σ y)).run P w = .ok v' w' ∧ v' = conc σ' v ∧ v.lt (s.heap.length + 1) ∧ Rel E σ' ⟨s.slots, s.heap ++ [b]⟩ a w' ∧ (∀ i, i < s.heap.length → σ' i = σ i) := by
  unfold mkV at hb
  split at hb
  · split at hb
    · rename_i k1 l k2 c _ e z by_ hslo
      split at hb
      · rename_i zs hzs
        simp only [Option.some.injEq, Prod.mk.injEq] at hb
        obtain ⟨rfl, rfl, rfl⟩ := hb
        obtain ⟨p1, p2, p3, p4⟩ := hp
        obtain ⟨hu, hsz, hz0, info, hi, his, hib⟩ := slo_some hslo
        obtain ⟨i', zv, hi', hzv, hzc, hzl, hzm⟩ := zeroL_some hzs
        rw [hi] at hi'
        cases hi'
        have hzl' : zs.length = z := by rw [hzl, his]
        have hwf : ∀ d ∈ zerosL zs c.toNat, V.lt s.heap.length d ∧ d.one = true := fun d hd => by
          have := zerosL_mem hd; exact ⟨(hzm d this).1 _, (hzm d this).2⟩
        obtain ⟨σ', h1, h2, h3⟩ := h.newFix (zerosL zs c.toNat) e hwf
        refine ⟨.slice (some ⟨w.heap.size, 0, none⟩) l.toNat c.toNat, _, σ', ?_, by simp [conc, Cap.val, h2], by simp [V.lt], h3, h1⟩
        have wl : IntKind.i64.wrap l = l := wrap_in64 ⟨by omega, by omega⟩
        have wc : IntKind.i64.wrap c = c := wrap_in64 ⟨by omega, by omega⟩
        have hbc : ¬ ((by_ : Int) * c > 281474976710656) := by rw [Int.mul_comm]; omega
        have t1 : (decide (c < 0) || decide ((by_ : Int) * c > 2 ^ 48) || decide (l < 0) || decide (l > c)) = false := by
          have e1 : decide (c < 0) = false := decide_eq_false (by omega)
          have e2 : decide ((by_ : Int) * c > 2 ^ 48) = false := decide_eq_false (by simpa using hbc)
          have e3 : decide (l < 0) = false := decide_eq_false (by omega)
          have e4 : decide (l > c) = false := decide_eq_false (by omega)
          rw [e1, e2, e3, e4]; rfl
        have hz := zerosL_conc σ zs c.toNat zv.cells (hzc σ)
        rw [hzl'] at hz
        simp only [Instr.makeSlice, conc, asInt, asIntOf, Sem.run_bind, Sem.run_pure, run_underlying hu, Result.andThen_ok, typeInfo, run_program, hi, hib, wl, wc, t1, Bool.false_eq_true, if_false, run_askRoom, run_szo hsz]
        by_cases h0 : c.toNat * z = 0
        · have hz : (Array.range (c.toNat * z)).map (fun x => (#[] : Array Value)[x % (#[] : Array Value).size]!) = (concs σ (zerosL zs c.toNat)).toArray := by
            have e0 : (concs σ (zerosL zs c.toNat)) = [] := List.eq_nil_of_length_eq_zero (by rw [concs_length, zerosL_length, hzl', h0])
            rw [e0, h0]; simp
          simp only [if_pos h0, Sem.run_pure, Result.andThen_ok, hz, Sem.run_bind, newRow, run_newObj]
          rfl
        · simp only [if_neg h0, Sem.run_bind, zeroValue, typeInfo, run_program, Result.andThen_ok, hi, hzv, Sem.run_pure, hz, newRow, run_newObj]
          rfl
      · cases hb
    · cases hb
  · cases hb

def capOk (hp : List Blk) : V → Prop
  | .s i _ len (.u c) => match hp[i]? with
    | some b => match b.k with
      | .own z => 0 < z ∧ (c + len) * z ≤ b.cells.length
      | _ => False
    | none => False
  | .s i _ len (.i c) => match hp[i]? with
    | some b => match b.k with
      | .own z => 0 < z ∧ (c + len) * z ≤ b.cells.length
      | _ => False
    | none => False
  | _ => True

theorem capOk_sound (hr : HRel σ s.heap w) {x : V} (h : capOk s.heap x) : ∀ i off len c, x = .s i off len (.u c) ∨ x = .s i off len (.i c) → len ≤ (σ i).cap - c := by
  have key : ∀ i len c, (match s.heap[i]? with
    | some b => match b.k with
      | .own z => 0 < z ∧ (c + len) * z ≤ b.cells.length
      | _ => False
    | none => False) → len ≤ (σ i).cap - c := by
    intro i len c h
    split at h
    · rename_i b hb
      split at h
      · rename_i z hk
        have hold := hr.holds i b hb
        unfold Holds at hold
        rw [hk] at hold
        obtain ⟨_, cur, n, _, hn, hcap, _⟩ := hold
        rw [hn] at h
        have := Nat.le_of_mul_le_mul_right h.2 h.1
        omega
      · exact h.elim
    · exact h.elim
  rintro i off len c (rfl | rfl)
  · exact key i len c h
  · exact key i len c h

def reachTo (hp : List Blk) : V → Nat → Int → Prop
  | .s i _ _ (.u c), z, h => match hp[i]? with
    | some b => match b.k with
      | .own z' => z' = z ∧ 0 < z ∧ (c + h.toNat) * z ≤ b.cells.length
      | _ => False
    | none => False
  | .s i _ _ (.i c), z, h => match hp[i]? with
    | some b => match b.k with
      | .own z' => z' = z ∧ 0 < z ∧ (c + h.toNat) * z ≤ b.cells.length
      | _ => False
    | none => False
  | _, _, _ => False
theorem reachTo_sound (hr : HRel σ s.heap w) {x : V} : ∀ i off len c, x = .s i off len (.u c) ∨ x = .s i off len (.i c) → ∀ z h', reachTo s.heap x z h' → h' ≤ (((σ i).cap - c : Nat) : Int) := by
  have key : ∀ (i c z : Nat) (h' : Int), (match s.heap[i]? with
    | some b => match b.k with
      | .own z' => z' = z ∧ 0 < z ∧ (c + h'.toNat) * z ≤ b.cells.length
      | _ => False
    | none => False) → h' ≤ (((σ i).cap - c : Nat) : Int) := by
    intro i c z h' h
    split at h
    · rename_i b hb
      split at h
      · rename_i z' hk
        obtain ⟨rfl, h0, h⟩ := h
        have hold := hr.holds i b hb
        unfold Holds at hold
        rw [hk] at hold
        obtain ⟨_, cur, n, _, hn, hcap, _⟩ := hold
        rw [hn] at h
        have := Nat.le_of_mul_le_mul_right h h0
        omega
      · exact h.elim
    · exact h.elim
  rintro i off len c (rfl | rfl) z h' h
  · exact key i c z h' h
  · exact key i c z h' h
def slV (P : Program) (hp : List Blk) (t : TypeId) (x : V) (lo hi mx : Option V) : Option (Prop × V) := (sliceV P (reachTo hp x) t x lo hi mx).map fun q => (q.1 ∧ capOk hp x, q.2)
theorem slV_congr {P : Program} {hp hp' : List Blk} {t : TypeId} {i off len : Nat} {c : Cap} {lo hi mx : Option V} (h : hp[i]? = hp'[i]?) : slV P hp t (.s i off len c) lo hi mx = slV P hp' t (.s i off len c) lo hi mx := by
  have e1 : reachTo hp (.s i off len c) = reachTo hp' (.s i off len c) := by
    funext z h'; cases c <;> simp only [reachTo, h]
  have e2 : capOk hp (.s i off len c) = capOk hp' (.s i off len c) := by cases c <;> simp only [capOk, h]
  unfold slV; rw [e1, e2]

def clrV (P : Program) (s : St) (t : TypeId) (x : V) : Option (Prop × V × St) :=
  match slo P t with
  | some (e, z, _) => match zeroL P e, x with
    | some zs, .s i off len _ => match s.heap[i]? with
      | some b => some (b.k.mut = true ∧ 0 < len ∧ off + len * z ≤ b.cells.length, .t [], ⟨s.slots, s.heap.set i { b with cells := wr b.cells off (zerosL zs len) }⟩)
      | none => none
    | some _, .e _ _ _ _ _ => some (True, .t [], s)
    | some _, .v (.slice none _ _) => some (True, .t [], s)
    | _, _ => none
  | none => none
theorem clrV_any (P : Program) (s : St) (t : TypeId) : clrV P s t .any = none := by
  unfold clrV
  rcases slo P t with _ | ⟨e, z, b⟩
  · rfl
  · simp only []
    generalize zeroL P e = o
    rcases o with _ | zs <;> rfl
theorem clrV_sound (h : Rel E σ s a w) {t : TypeId} {x v : V} {p : Prop} {s' : St} (hc : clrV P s t x = some (p, v, s')) (hp : p) (ty : TypeId) :
    ∃ v' w', (Builtin.clear_ #[t] ty #[conc σ x]).run P w = .ok v' w' ∧ v' = conc σ v ∧ v.lt s'.heap.length ∧ Rel E σ s' a w' := by
  unfold clrV at hc
  split at hc
  · rename_i e z by_ hslo
    obtain ⟨hu, hsz, hz0, info, hi, his, hib⟩ := slo_some hslo
    split at hc
    · rename_i zs i off len c hzs
      obtain ⟨i', zv, hi', hzv, hzc, hzl, hzm⟩ := zeroL_some hzs
      rw [hi] at hi'
      cases hi'
      split at hc
      · rename_i b hb
        simp only [Option.some.injEq, Prod.mk.injEq] at hc
        obtain ⟨rfl, rfl, rfl⟩ := hc
        obtain ⟨hm, hlen, hfit⟩ := hp
        have hzl' : zs.length = z := by rw [hzl, his]
        have hwf : ∀ d ∈ zerosL zs len, V.lt s.heap.length d ∧ d.one = true := fun d hd => by
          have := zerosL_mem hd; exact ⟨(hzm d this).1 _, (hzm d this).2⟩
        obtain ⟨w', hst, hrel⟩ := h.storeCells (P := P) hb hm (off := off) (zerosL zs len) (by rw [zerosL_length, hzl']; exact hfit) hwf
        have hz := zerosL_conc σ zs len zv.cells (hzc σ)
        have hsz : zv.cells.size = zs.length := by rw [hzc σ]; simp [concs_length]
        have hzz : (Builtin.zeroCells zv.cells len).toList = concs σ (zerosL zs len) := by
          rw [← hsz] at hz; unfold Builtin.zeroCells; rw [hz]
        obtain ⟨m, rfl⟩ : ∃ m, len = m + 1 := ⟨len - 1, by omega⟩
        refine ⟨.tuple #[], w', ?_, rfl, trivial, hrel⟩
        simp [conc, Builtin.clear_, run_underlying hu, zeroValue, typeInfo, hi, hzv, hzz, hst]
      · cases hc
    · cases hc
      refine ⟨.tuple #[], w, ?_, rfl, trivial, h⟩
      simp [conc, Builtin.clear_, run_underlying hu]
    · cases hc
      refine ⟨.tuple #[], w, ?_, rfl, trivial, h⟩
      simp [conc, Builtin.clear_, run_underlying hu]
    · cases hc
  · cases hc

def appV (P : Program) (n0 : Nat) (s : St) (t : TypeId) (y x : V) : Option (Prop × V × St) :=
  match y with
  | .s i 0 len (.u 0) => appOwn P n0 s t i len x
  | .s i 0 len .w => appDie P s t i len x
  | .s i off len (.i c) => appIn P s t i off len c x
  | y => appNew P s t x y

def opV (P : Program) (n0 : Nat) (s : St) : Op → Option (Prop × V × St)
  | .load t x => (ldV P s.heap t (ev s.slots x)).map fun q => (q.1, q.2, s)
  | .store t x y => (stV P s.heap t (ev s.slots y) (ev s.slots x)).map fun q => (q.1, .any, ⟨s.slots, q.2⟩)
  | .alloc t => (zeroL P t).map fun z => (True, .p s.heap.length 0, ⟨s.slots, s.heap ++ [⟨z, t, .fix⟩]⟩)
  | .box t x => some ((ev s.slots x).solid = true, .p s.heap.length 0, ⟨s.slots, s.heap ++ [⟨cellsL (ev s.slots x), t, .fix⟩]⟩)
  | .build t parts => (buildV P t (parts.toList.map fun q => (q.1, ev s.slots q.2))).map fun q => (q.1, q.2, s)
  | .buildSlice t len parts => (bslV P s.heap.length t len (parts.toList.map fun q => (q.1, ev s.slots q.2))).map fun q => (q.1, q.2.1, ⟨s.slots, s.heap ++ [q.2.2]⟩)
  | .makeSlice t l c => (mkV P s.heap.length t (ev s.slots l) (ev s.slots c)).map fun q => (q.1, q.2.1, ⟨s.slots, s.heap ++ [q.2.2]⟩)
  | .slice t x lo hi mx => (slV P s.heap t (ev s.slots x) (lo.map (ev s.slots)) (hi.map (ev s.slots)) (mx.map (ev s.slots))).map fun q => (q.1, q.2, s)
  | .makeFunc (.func n) ⟨[]⟩ caps => some ((caps.toList.map (ev s.slots)).all V.solid = true, .f n (caps.toList.map (ev s.slots)), s)
  | .call { callee := .builtin .append, args := ⟨[x, y]⟩, argTypes := ⟨[t, t']⟩ } => if t = t' then appV P n0 s t (ev s.slots x) (ev s.slots y) else appMake P s t t' (ev s.slots x) (ev s.slots y)
  | .call { callee := .builtin .clear, args := ⟨[x]⟩, argTypes := ⟨[t]⟩ } => clrV P s t (ev s.slots x)
  | .convert src dst x => cvV P s src dst (ev s.slots x)
  | o => (pv P (ev s.slots) o).map fun q => (q.1, q.2, s)

theorem Rel.mt (h : Rel E σ s a w) (x : Operand) : Mt σ (Go.Sx.ev s.slots x) (a.eval x) := by
  by_cases hx : Go.Sx.ev s.slots x = .any
  · exact .inl hx
  · exact .inr (h.ev x hx)

theorem solid_ne {x : V} (h : x.solid = true) : x ≠ .any := fun e => by subst e; cases h

theorem concs_of_mt {σ : Nat → Loc} (f : Operand → V) (g : Operand → Value) (h : ∀ x, Mt σ (f x) (g x)) : ∀ l : List Operand, (l.map f).all V.solid = true → l.map g = concs σ (l.map f)
  | [], _ => rfl
  | x :: l, hs => by
    simp only [List.map_cons, List.all_cons, Bool.and_eq_true] at hs
    simp only [List.map_cons, concs]
    rw [(h x).ne (solid_ne hs.1), concs_of_mt f g h l hs.2]

def Yield (σ : Nat → Loc) (v : V) (r : Next) : Prop := (∃ y, r = .value y ∧ Mt σ v y) ∨ (r = .skip ∧ v = .any)

theorem opV_sound {o : Oper} {p : Prop} {v : V} {s' : St} (h : Rel E σ s a w) (ho : opV P E.H.length s o.op = some (p, v, s')) (hp : p) :
    ∃ r w' σ', (execOp a.eval o).run P w = .ok r w' ∧ Yield σ' v r ∧ v.lt s'.heap.length ∧ Rel E σ' s' a w' := by
  have parts : ∀ (ps : List (Nat × Operand)), (∀ x ∈ (ps.map fun q => (q.1, Go.Sx.ev s.slots q.2)), V.lt s.heap.length x.2) ∧
      ((ps.map fun q => (q.1, Go.Sx.ev s.slots q.2)).length = (ps.map fun q => (q.1, a.eval q.2)).length ∧
        ∀ (j : Nat) (x : Nat × V) (y : Nat × Value), (ps.map fun q => (q.1, Go.Sx.ev s.slots q.2))[j]? = some x → (ps.map fun q => (q.1, a.eval q.2))[j]? = some y → y.1 = x.1 ∧ Mt σ x.2 y.2) := by
    intro ps
    refine ⟨fun x hx => ?_, by simp, fun j x y hx hy => ?_⟩
    · obtain ⟨q, _, rfl⟩ := List.mem_map.1 hx; exact h.evlt q.2
    · rw [List.getElem?_map] at hx hy
      obtain ⟨q, hq, rfl⟩ := Option.map_eq_some_iff.1 hx
      rw [hq] at hy
      cases hy
      exact ⟨rfl, h.mt q.2⟩
  have optmt : ∀ (lo : Option Operand), (∀ u, lo.map (Go.Sx.ev s.slots) = some u → ∃ z, lo.map a.eval = some z ∧ Mt σ u z) ∧ (lo.map (Go.Sx.ev s.slots) = none → lo.map a.eval = none) := by
    intro lo
    cases lo with
    | none => exact ⟨fun u hu => (by cases hu), fun _ => rfl⟩
    | some x => exact ⟨fun u hu => (by cases hu; exact ⟨_, rfl, h.mt x⟩), fun hu => (by cases hu)⟩
  unfold opV at ho
  unfold execOp
  split at ho <;> rename_i hop <;> (try rw [hop]) <;> (try dsimp only)
  · rename_i t x
    obtain ⟨⟨q1, q2⟩, hq, ho⟩ := Option.map_eq_some_iff.1 ho
    cases ho
    have hx : Go.Sx.ev s.slots x ≠ .any := by intro e; rw [e] at hq; simp [ldV] at hq
    refine ⟨.value (conc σ q2), w, σ, ?_, .inl ⟨_, rfl, .inr rfl⟩, ldV_lt h.heap hq, h⟩
    rw [(h.mt x).ne hx]; simp [ldV_sound h.heap hq hp]
  · rename_i t x y
    obtain ⟨⟨q1, q2⟩, hq, ho⟩ := Option.map_eq_some_iff.1 ho
    cases ho
    have hx : Go.Sx.ev s.slots x ≠ .any := by intro e; rw [e] at hq; simp [stV] at hq
    have hy : Go.Sx.ev s.slots y ≠ .any := by
      intro e; rw [e] at hq; unfold stV at hq; split at hq
      · split at hq
        · cases hq; exact absurd hp.2.1 (by simp [V.solid])
        · cases hq
      · cases hq
    obtain ⟨w', hr, hrel⟩ := stV_sound (P := P) h hq hp (h.evlt y)
    refine ⟨.skip, w', σ, ?_, .inr ⟨rfl, rfl⟩, trivial, hrel⟩
    rw [(h.mt x).ne hx, (h.mt y).ne hy]; simp [hr]
  · rename_i t
    obtain ⟨z, hz, ho⟩ := Option.map_eq_some_iff.1 ho
    cases ho
    obtain ⟨i, zv, _, _, _, _, hzm⟩ := zeroL_some hz
    obtain ⟨zv, hzr, hzc⟩ := run_zeroL hz w
    obtain ⟨σ', h1, h2, h3⟩ := h.newFix z t fun c hc => ⟨(hzm c hc).1 _, (hzm c hc).2⟩
    refine ⟨.value (.pointer (some ⟨w.heap.size, 0, none⟩)), _, σ', ?_, .inl ⟨_, rfl, .inr (by simp [conc, h2])⟩, by simp [V.lt], h3⟩
    simp [Instr.alloc, hzr, newVar, newRow, hzc σ]
  · rename_i t x
    simp only [Option.some.injEq, Prod.mk.injEq] at ho
    obtain ⟨rfl, rfl, rfl⟩ := ho
    obtain ⟨σ', h1, h2, h3⟩ := h.newFix (cellsL (Go.Sx.ev s.slots x)) t (cellsL_wf hp (h.evlt x))
    refine ⟨.value (.pointer (some ⟨w.heap.size, 0, none⟩)), _, σ', ?_, .inl ⟨_, rfl, .inr (by simp [conc, h2])⟩, by simp [V.lt], h3⟩
    rw [(h.mt x).ne (solid_ne hp)]
    simp [Instr.box, newVar, newRow, cellsL_conc σ hp _ (h.evlt x)]
  · rename_i t ps
    obtain ⟨⟨q1, q2⟩, hq, ho⟩ := Option.map_eq_some_iff.1 ho
    cases ho
    obtain ⟨p1, p2⟩ := parts ps.toList
    refine ⟨.value (conc σ q2), w, σ, ?_, .inl ⟨_, rfl, .inr rfl⟩, buildV_lt hq hp p1, h⟩
    have := buildV_sound (pv := ps.toList.map fun q => (q.1, a.eval q.2)) σ hq hp p1 p2 w
    have e : (Array.map (fun x => (x.1, a.eval x.2)) ps) = (ps.toList.map fun q => (q.1, a.eval q.2)).toArray := by apply Array.ext'; simp
    simp only [Sem.run_bind]
    rw [e, this]; rfl
  · rename_i t len ps
    obtain ⟨⟨q1, q2⟩, hq, ho⟩ := Option.map_eq_some_iff.1 ho
    cases ho
    obtain ⟨p1, p2⟩ := parts ps.toList
    obtain ⟨v', w', σ', hr, hv, hlt, hrel, _⟩ := bslV_sound (P := P) (pv := ps.toList.map fun q => (q.1, a.eval q.2)) h hq hp p1 p2
    refine ⟨.value v', w', σ', ?_, .inl ⟨_, rfl, .inr hv⟩, by simpa using hlt, hrel⟩
    have e : (Array.map (fun x => (x.1, a.eval x.2)) ps) = (ps.toList.map fun q => (q.1, a.eval q.2)).toArray := by apply Array.ext'; simp
    simp only [Sem.run_bind]
    rw [e, hr]; rfl
  · rename_i t l c
    obtain ⟨⟨q1, q2⟩, hq, ho⟩ := Option.map_eq_some_iff.1 ho
    cases ho
    have hl : Go.Sx.ev s.slots l ≠ .any := by intro e; rw [e] at hq; simp [mkV] at hq
    have hc : Go.Sx.ev s.slots c ≠ .any := by intro e; rw [e] at hq; unfold mkV at hq; split at hq <;> simp_all
    obtain ⟨v', w', σ', hr, hv, hlt, hrel, _⟩ := mkV_sound (P := P) h hq hp
    refine ⟨.value v', w', σ', ?_, .inl ⟨_, rfl, .inr hv⟩, by simpa using hlt, hrel⟩
    rw [(h.mt l).ne hl, (h.mt c).ne hc]; simp [hr]
  · rename_i t x lo hi mx
    obtain ⟨⟨q1, q2⟩, hq, ho⟩ := Option.map_eq_some_iff.1 ho
    cases ho
    unfold slV at hq
    obtain ⟨⟨r1, r2⟩, hq2, hr⟩ := Option.map_eq_some_iff.1 hq
    cases hr
    have hx : Go.Sx.ev s.slots x ≠ .any := by intro e; rw [e] at hq2; unfold sliceV at hq2; split at hq2 <;> simp_all
    refine ⟨.value (conc σ r2), w, σ, ?_, .inl ⟨_, rfl, .inr rfl⟩, sliceV_lt hq2 (h.evlt x), h⟩
    have := sliceV_sound (P := P) σ hq2 hp.1 w (optmt lo) (optmt hi) (optmt mx) (capOk_sound h.heap hp.2) (reachTo_sound h.heap)
    rw [(h.mt x).ne hx]; simp [this]
  · rename_i n caps
    simp only [Option.some.injEq, Prod.mk.injEq] at ho
    obtain ⟨rfl, rfl, rfl⟩ := ho
    refine ⟨.value (conc σ (.f n (caps.toList.map (Go.Sx.ev s.slots)))), w, σ, ?_, .inl ⟨_, rfl, .inr rfl⟩, ?_, h⟩
    · have := concs_of_mt (Go.Sx.ev s.slots) a.eval h.mt caps.toList hp
      have e : Array.map a.eval caps = (caps.toList.map a.eval).toArray := by apply Array.ext'; simp
      simp [Instr.makeFunc, conc, e, this]
    · exact (lts_iff _ _).2 fun c hc => by obtain ⟨q, _, rfl⟩ := List.mem_map.1 hc; exact h.evlt q
  · rename_i x y t t'
    split at ho
    · rename_i ht
      subst ht
      have hxy : Go.Sx.ev s.slots x ≠ .any ∧ Go.Sx.ev s.slots y ≠ .any := by
        constructor
        · intro e; rw [e] at ho; unfold appV appNew at ho; simp at ho
        · intro e; rw [e] at ho
          unfold appV appOwn appDie appIn appNew newsV at ho
          (repeat' split at ho) <;> simp_all
      have key : ∃ v' w' σ', (Builtin.append_ #[t, t] o.type #[conc σ (Go.Sx.ev s.slots x), conc σ (Go.Sx.ev s.slots y)]).run P w = .ok v' w' ∧ v' = conc σ' v ∧ v.lt s'.heap.length ∧ Rel E σ' s' a w' := by
        unfold appV at ho
        split at ho
        · rename_i hy; rw [hy]; exact appOwn_sound h ho hp o.type
        · rename_i hy; rw [hy]; exact appDie_sound h ho hp o.type
        · rename_i hy; rw [hy]; exact appIn_sound h ho hp o.type
        · exact appNew_sound h ho hp o.type
      obtain ⟨v', w', σ', hr, hv, hlt, hrel⟩ := key
      refine ⟨.value v', w', σ', ?_, .inl ⟨_, rfl, .inr hv⟩, hlt, hrel⟩
      simp only [resolve, Sem.run_bind, Sem.run_pure, Result.andThen_ok, invoke, builtin, List.map_toArray, List.map_cons, List.map_nil]
      rw [(h.mt x).ne hxy.1, (h.mt y).ne hxy.2, hr]; rfl
    · have hxy : Go.Sx.ev s.slots x ≠ .any ∧ Go.Sx.ev s.slots y ≠ .any := by
        constructor
        · intro e; rw [e] at ho; unfold appMake at ho; split at ho <;> simp_all
        · intro e; rw [e] at ho; unfold appMake at ho; split at ho <;> simp_all
      obtain ⟨v', w', σ', hr, hv, hlt, hrel⟩ := appMake_sound h ho hp o.type
      refine ⟨.value v', w', σ', ?_, .inl ⟨_, rfl, .inr hv⟩, hlt, hrel⟩
      simp only [resolve, Sem.run_bind, Sem.run_pure, Result.andThen_ok, invoke, builtin, List.map_toArray, List.map_cons, List.map_nil]
      rw [(h.mt x).ne hxy.1, (h.mt y).ne hxy.2, hr]; rfl
  · rename_i x t
    have hx : Go.Sx.ev s.slots x ≠ .any := by intro e; rw [e, clrV_any] at ho; cases ho
    obtain ⟨v', w', hr, hv, hlt, hrel⟩ := clrV_sound h ho hp o.type
    refine ⟨.value v', w', σ, ?_, .inl ⟨_, rfl, .inr hv⟩, hlt, hrel⟩
    simp only [resolve, Sem.run_bind, Sem.run_pure, Result.andThen_ok, invoke, builtin, List.map_toArray, List.map_cons, List.map_nil]
    rw [(h.mt x).ne hx, hr]; rfl
  · rename_i src dst x
    have hx : Go.Sx.ev s.slots x ≠ .any := by intro e; rw [e, cvV_any] at ho; cases ho
    obtain ⟨v', w', σ', hr, hv, hlt, hrel⟩ := cvV_sound (P := P) h ho hp (h.evlt x)
    refine ⟨.value v', w', σ', ?_, .inl ⟨_, rfl, .inr hv⟩, hlt, hrel⟩
    rw [(h.mt x).ne hx]
    simp [hr]
  · obtain ⟨⟨q1, q2⟩, hq, ho⟩ := Option.map_eq_some_iff.1 ho
    cases ho
    obtain ⟨y, hm, hr⟩ := pv_sound σ hq hp (a := a) h.mt
    exact ⟨.value y, w, σ, by have := hr w; unfold execOp at this; exact this, .inl ⟨y, rfl, hm⟩, pv_lt hq h.evlt, h⟩
end
end Go.Sx
namespace Go.Sx
open Go.RowKit

def callable (P : Program) (f : FuncId) : Bool := match P.funcs[f]? with
  | some fn => fn.body.isSome && fn.name != "runtime.NumGoroutine"
  | none => false

structure Cal (P : Program) (f : FuncId) (args : List V) (H : List Blk) (R : V → List Blk → Prop) : Prop where
  ok : callable P f = true
  spec : Spec P f args H R

theorem Cal.mono {P : Program} {f : FuncId} {args : List V} {H : List Blk} {R R' : V → List Blk → Prop} (h : Cal P f args H R) (hr : ∀ v H', R v H' → R' v H') : Cal P f args H R' := ⟨h.1, h.2.mono hr⟩

def guardV (ops : Array Oper) (sl : List V) (o : Oper) : Option Bool := match o.guard with
  | none => some true
  | some (j, want) => match (ops[j]?).bind (·.dst) with
    | some d => match nth sl d with
      | .v (.bool b) => some (b == want)
      | .t [] => some false
      | _ => none
    | none => none

def Wo (P : Program) (n0 : Nat) (o : Oper) (F : St → Prop) (s : St) : Prop :=
  match o.op with
  | .call { callee := .value f, args := xs, argTypes := _ } => match ev s.slots f with
    | .f n cs => (xs.toList.map (ev s.slots)).all V.solid = true ∧ Cal P n (xs.toList.map (ev s.slots) ++ cs) s.heap fun v H' => F (St.put ⟨s.slots, H'⟩ o.dst v)
    | _ => False
  | op => match opV P n0 s op with
    | some (p, v, s') => p ∧ F (s'.put o.dst v)
    | none => False

def Wl (P : Program) (n0 : Nat) (ops : Array Oper) : List Oper → (St → Prop) → St → Prop
  | [], F, s => F s
  | o :: r, F, s => match guardV ops s.slots o with
    | some g => (g = true → Wo P n0 o (Wl P n0 ops r F) s) ∧ (g = false → Wl P n0 ops r F (s.put o.dst (.t [])))
    | none => False

section
variable {P : Program} {E : En} {σ : Nat → Loc} {s : St} {a : Act} {w : World}

theorem guardV_sound (h : Rel E σ s a w) {ops : Array Oper} {o : Oper} {g : Bool} (hg : guardV ops s.slots o = some g) : Region.wanted o (yielded ops a.tmps) = g := by
  unfold guardV at hg
  unfold Region.wanted
  split at hg
  · rename_i h0; rw [h0]; cases hg; rfl
  · rename_i j want h0
    rw [h0]
    dsimp only
    split at hg
    · rename_i d hd
      split at hg
      · rename_i b hb
        cases hg
        unfold yielded
        rw [hd]
        rw [nth_eq] at hb
        cases hs : s.slots[d]? with
        | none => rw [hs] at hb; cases hb
        | some v =>
          rw [hs] at hb
          simp only [Option.getD_some] at hb
          subst hb
          have := (h.slots d _ hs).resolve_left (fun e => nomatch e)
          simp [this, conc]
      · rename_i hb
        cases hg
        unfold yielded
        rw [hd]
        rw [nth_eq] at hb
        cases hs : s.slots[d]? with
        | none => rw [hs] at hb; cases hb
        | some v =>
          rw [hs] at hb
          simp only [Option.getD_some] at hb
          subst hb
          have := (h.slots d _ hs).resolve_left (fun e => nomatch e)
          simp [this, conc, concs]
      · cases hg
    · cases hg

theorem callFunc_run {f : FuncId} (h : callable P f = true) (args : Array Value) (w : World) : (callFunc f args).run P w = .ok (.enter f args) w := by
  unfold callable at h
  split at h
  · rename_i fn hf
    simp only [Bool.and_eq_true, bne_iff_ne, ne_eq] at h
    simp [callFunc, hf, h.2]
    intro h0
    rw [h0] at h
    simp at h
  · cases h

theorem Wo_sound {o : Oper} {F : St → Prop} {K : Act → World → Prop} {Q : Exit → Act → World → Prop} (h : Rel E σ s a w) (ho : Wo P E.H.length o F s)
    (hK : ∀ (σ : Nat → Loc) (s : St) (a : Act) (w : World), F s → Rel E σ s a w → K a w) : o.wp P a w K Q := by
  unfold Wo at ho
  split at ho
  · rename_i f xs ats hop
    split at ho
    · rename_i n cs hf
      obtain ⟨hsol, hc, hspec⟩ := ho
      have hfv := (h.mt f).ne (by rw [hf]; exact fun e => nomatch e)
      rw [hf] at hfv
      have hargs : (xs.toList.map a.eval) = concs σ (xs.toList.map (Go.Sx.ev s.slots)) := concs_of_mt _ _ h.mt _ hsol
      have hlt : lts s.heap.length (xs.toList.map (Go.Sx.ev s.slots) ++ cs) := (lts_iff _ _).2 fun c hc => by
        rcases List.mem_append.1 hc with hc | hc
        · obtain ⟨q, _, rfl⟩ := List.mem_map.1 hc; exact h.evlt q
        · have := h.evlt f; rw [hf] at this; exact lts_mem this hc
      have hrun : (execOp a.eval o).run P w = .ok (.enter n (concs σ (xs.toList.map (Go.Sx.ev s.slots) ++ cs)).toArray) w := by
        have e1 : Array.map a.eval xs = (xs.toList.map a.eval).toArray := by apply Array.ext'; simp
        unfold execOp
        rw [hop]
        dsimp only
        simp only [resolve, Sem.run_bind, Deferred.ofValue, hfv, conc, Sem.run_pure, Result.andThen_ok, invoke, e1, hargs]
        rw [callFunc_run hc]
        congr 2
        apply Array.ext'
        simp [concs_append]
      unfold Oper.wp
      rw [hrun]
      refine (hspec σ w h.heap hlt).mono ?_
      rintro e w' ⟨v, H', σ', hF, rfl, hvl, hlen, hagr, hrel, hfr, hnew⟩
      have hr' : Rel E σ' ⟨s.slots, H'⟩ a w' := by
        refine h.world hagr hlen hrel hfr.os hfr.tape hfr.output hfr.size (fun k hk => ?_) ?_
        · by_cases hex : ∃ (i : Nat) (b : Blk), s.heap[i]? = some b ∧ b.k.mut = true ∧ (σ i).blk = k
          · obtain ⟨i, b, hi, hm, rfl⟩ := hex
            exact .inl (h.new i b hi hm)
          · exact .inr (hfr.block k hk fun i b hi hm he => hex ⟨i, b, hi, hm, he⟩)
        · intro i b hi hm
          rcases hnew i b hi hm with h1 | ⟨i0, b0, h1, h2, h3⟩
          · exact .inl (Nat.le_trans h.fr.size h1)
          · rw [← h3]; exact h.new i0 b0 h1 h2
      exact hK _ _ _ _ hF (hr'.put o.dst v hvl)
    · exact ho.elim
  · split at ho
    · rename_i p v s' hov
      obtain ⟨r, w', σ', hr, hy, hvl, hrel⟩ := opV_sound h hov ho.1
      unfold Oper.wp
      rw [hr]
      rcases hy with ⟨y, rfl, hm⟩ | ⟨rfl, rfl⟩
      · rcases hm with rfl | rfl
        · exact hK _ _ _ _ ho.2 (hrel.putAny o.dst y)
        · exact hK _ _ _ _ ho.2 (hrel.put o.dst v hvl)
      · exact hK _ _ _ _ ho.2 (hrel.putAny o.dst undef)
    · exact ho.elim

theorem Wl_sound {ops : Array Oper} {F : St → Prop} {Q : Exit → Act → World → Prop} (hQ : ∀ (σ : Nat → Loc) (s : St) (a : Act) (w : World), F s → Rel E σ s a w → Q .normal a w) :
    ∀ (l : List Oper) (σ : Nat → Loc) (s : St) (a : Act) (w : World), Rel E σ s a w → Wl P E.H.length ops l F s → wpList P ops Q l a w
  | [], σ, s, a, w, h, hw => hQ σ s a w hw h
  | o :: r, σ, s, a, w, h, hw => by
    unfold Wl at hw
    split at hw
    · rename_i g hg
      have hwant := guardV_sound h hg
      unfold wpList
      rw [hwant]
      cases g
      · simp only [Bool.false_eq_true, if_false]
        exact Wl_sound hQ r σ _ _ w (h.put o.dst (.t []) (by simp [V.lt, Go.Sx.lts])) (hw.2 rfl)
      · simp only [if_true]
        left
        exact Wo_sound h (hw.1 rfl) fun σ' s' a' w' hF hr => Wl_sound hQ r σ' s' a' w' hr hF
    · exact hw.elim
end

def Weak (n0 : Nat) (s s2 : St) : Prop := ∀ (E : En) (σ : Nat → Loc) (a : Act) (w : World), E.H.length = n0 → Rel E σ s a w → ∃ σ2, Rel E σ2 s2 a w

theorem Weak.refl (n0 : Nat) (s : St) : Weak n0 s s := fun _ σ _ _ _ h => ⟨σ, h⟩
theorem Weak.trans {n0 : Nat} {s s2 s3 : St} (h : Weak n0 s s2) (h' : Weak n0 s2 s3) : Weak n0 s s3 := fun E σ a w hE hr => by
  obtain ⟨σ2, h2⟩ := h E σ a w hE hr
  exact h' E σ2 a w hE h2

def W (P : Program) (n0 : Nat) (D : Array Oper → (St → Prop) → St → Prop) : Code → (Exit → St → Prop) → St → Prop
  | .skip, Q, s => Q .normal s
  | .region _ ops false, Q, s => Wl P n0 ops ops.toList (Q .normal) s
  | .region _ ops true, Q, s => D ops (Q .normal) s
  | .seq x y, Q, s => W P n0 D x (fun e s' => match e with | .normal => W P n0 D y Q s' | e => Q e s') s
  | .cond c x y, Q, s => match ev s.slots c with
    | .v (.bool b) => (b = true → W P n0 D x Q s) ∧ (b = false → W P n0 D y Q s)
    | _ => False
  | .block id x, Q, s => W P n0 D x (fun e s' => match e with | .exit id' => if id' = id then Q .normal s' else Q (.exit id') s' | e => Q e s') s
  | .loop x, Q, s => ∃ (R : St → Prop) (μ : St → Nat), (∃ s0, Weak n0 s s0 ∧ R s0) ∧
      ∀ s1, R s1 → W P n0 D x (fun e s' => match e with | .normal => ∃ s2, Weak n0 s' s2 ∧ R s2 ∧ μ s2 < μ s1 | e => Q e s') s1
  | .exit id, Q, s => Q (.exit id) s
  | .ret, Q, s => Q .ret s
  | _, _, _ => False

def lift (E : En) (Q : Exit → St → Prop) : Exit → Act → World → Prop := fun e a w => ∃ σ s, Q e s ∧ Rel E σ s a w

def DrawLaw (P : Program) (D : Nat → Array Oper → (St → Prop) → St → Prop) : Prop :=
  ∀ (id : Nat) (ops : Array Oper) (E : En) (F : St → Prop) (Q : Exit → Act → World → Prop) (σ : Nat → Loc) (s : St) (a : Act) (w : World), Rel E σ s a w → D E.H.length ops F s →
    (∀ (σ : Nat → Loc) (s : St) (a : Act) (w : World), F s → Rel E σ s a w → Q .normal a w) → (Code.region id ops true).wp P Q a w

theorem W_sound {P : Program} {D : Nat → Array Oper → (St → Prop) → St → Prop} (hD : DrawLaw P D) (E : En) : ∀ (c : Code) (Q : Exit → St → Prop) (σ : Nat → Loc) (s : St) (a : Act) (w : World),
    Rel E σ s a w → W P E.H.length (D E.H.length) c Q s → c.wp P (lift E Q) a w
  | .skip, Q, σ, s, a, w, h, hw => wp_skip ⟨σ, s, hw, h⟩
  | .region id ops false, Q, σ, s, a, w, h, hw => wp_region_list (Wl_sound (fun σ s a w hF hr => ⟨σ, s, hF, hr⟩) ops.toList σ s a w h hw)
  | .region id ops true, Q, σ, s, a, w, h, hw => hD id ops E _ _ σ s a w h hw fun σ s a w hF hr => ⟨σ, s, hF, hr⟩
  | .seq x y, Q, σ, s, a, w, h, hw => by
    refine wp_seq (wp_mono (W_sound hD E x _ σ s a w h hw) ?_)
    rintro e a' w' ⟨σ', s', hq, hr⟩
    cases e with
    | normal => exact W_sound hD E y Q σ' s' a' w' hr hq
    | _ => exact ⟨σ', s', hq, hr⟩
  | .cond c x y, Q, σ, s, a, w, h, hw => by
    unfold W at hw
    split at hw
    · rename_i b hb
      have hc := (h.mt c).ne (by rw [hb]; exact fun e => nomatch e)
      rw [hb] at hc
      exact wp_cond_split (t := b) hc (fun ht => W_sound hD E x Q σ s a w h (hw.1 ht)) (fun ht => W_sound hD E y Q σ s a w h (hw.2 ht))
    · exact hw.elim
  | .block id x, Q, σ, s, a, w, h, hw => by
    refine wp_block (wp_mono (W_sound hD E x _ σ s a w h hw) ?_)
    rintro e a' w' ⟨σ', s', hq, hr⟩
    cases e with
    | exit id' =>
      simp only [Exit.inBlock]
      split
      · rename_i hid; simp only [hid, if_true] at hq; exact ⟨σ', s', hq, hr⟩
      · rename_i hid; simp only [hid, if_false] at hq; exact ⟨σ', s', hq, hr⟩
    | _ => exact ⟨σ', s', hq, hr⟩
  | .loop x, Q, σ, s, a, w, h, hw => by
    obtain ⟨R, μ, ⟨s0, hweak, hR⟩, hround⟩ := hw
    obtain ⟨σ0, h0⟩ := hweak E σ a w rfl h
    intro b k cs
    have key : ∀ n (σ : Nat → Loc) (s : St) a w, μ s = n → R s → Rel E σ s a w →
        ∃ e a' w', lift E Q e a' w' ∧ Arrives P (lone (b.at a (.code x :: .inLoop x :: k)) cs w) b k cs e a' w' := by
      intro n
      induction n using Nat.strongRecOn with
      | _ n ih =>
        intro σ s a w hn hI hr
        obtain ⟨e, a₁, w₁, ⟨σ1, s1, hq, hr1⟩, harr⟩ := W_sound hD E x _ σ s a w hr (hround s hI) b (.inLoop x :: k) cs
        cases e with
        | normal =>
          obtain ⟨s2, hw2, hR2, hlt⟩ := hq
          obtain ⟨σ2, hr2⟩ := hw2 E σ1 a₁ w₁ rfl hr1
          obtain ⟨e₂, a₂, w₂, hq₂, harr₂⟩ := ih (μ s2) (hn ▸ hlt) σ2 s2 a₁ w₁ rfl hR2 hr2
          exact ⟨e₂, a₂, w₂, hq₂, .of_steps (Steps.trans harr (.one step_inLoop)) harr₂⟩
        | exit id => exact ⟨_, a₁, w₁, ⟨σ1, s1, hq, hr1⟩, .pass (x := .inLoop x) rfl (fun _ _ => .inl (by simp)) harr⟩
        | goto l => exact ⟨_, a₁, w₁, ⟨σ1, s1, hq, hr1⟩, .pass (x := .inLoop x) rfl (fun _ _ => .inl (by simp)) harr⟩
        | ret => exact ⟨_, a₁, w₁, ⟨σ1, s1, hq, hr1⟩, .pass (x := .inLoop x) rfl (fun _ _ => .inl (by simp)) harr⟩
        | panic ch => exact ⟨_, a₁, w₁, ⟨σ1, s1, hq, hr1⟩, .pass (x := .inLoop x) rfl (fun _ _ => .inl (by simp)) harr⟩
        | outgrown => exact ⟨_, a₁, w₁, ⟨σ1, s1, hq, hr1⟩, .pass (x := .inLoop x) rfl (fun _ _ => .inl (by simp)) harr⟩
    obtain ⟨e, a', w', hq, harr⟩ := key _ σ0 s0 a w rfl hR h0
    exact ⟨e, a', w', hq, .of_steps (.one step_loop) harr⟩
  | .exit id, Q, σ, s, a, w, h, hw => wp_exit ⟨σ, s, hw, h⟩
  | .ret, Q, σ, s, a, w, h, hw => wp_ret ⟨σ, s, hw, h⟩
  | .rangeFunc .., _, _, _, _, _, _, hw => hw.elim
  | .scope _, _, _, _, _, _, _, hw => hw.elim
  | .label _, _, _, _, _, _, _, hw => hw.elim
  | .goto _, _, _, _, _, _, _, hw => hw.elim
  | .refuse _, _, _, _, _, _, _, hw => hw.elim
end Go.Sx
