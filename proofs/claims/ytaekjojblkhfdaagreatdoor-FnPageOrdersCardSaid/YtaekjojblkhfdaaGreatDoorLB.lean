/- A small symbolic layer over the model, part 2: code, calls by contract, and regions that draw their order; it speaks of no one program. -/
import Derived.Test.YtaekjojblkhfdaaGreatDoorLA
set_option linter.unusedVariables false
set_option linter.unusedSimpArgs false
namespace Go.Sx
open Go.RowKit

def resL (P : Program) (s : St) : List ResultVar → Option (Prop × List V)
  | [] => some (True, [])
  | .tmp t :: r => (resL P s r).map fun q => ((nth s.slots t).solid = true ∧ q.1, nth s.slots t :: q.2)
  | .cell a ty :: r => match ldV P s.heap ty (nth s.slots a) with
    | some (p, v) => (resL P s r).map fun q => (p ∧ q.1, v :: q.2)
    | none => none

def retV : List V → V
  | [v] => v
  | vs => .t vs

def Drop (n0 : Nat) (v : V) (H : List Blk) (v' : V) (H' : List Blk) : Prop :=
  ∀ (σ : Nat → Loc) (w : World), HRel σ H w → v.lt H.length → ∃ σ', (∀ i, i < n0 → σ' i = σ i) ∧ HRel σ' H' w ∧ conc σ' v' = conc σ v ∧ v'.lt H'.length ∧ n0 ≤ H'.length ∧
    (∀ (i : Nat) (b : Blk), H'[i]? = some b → b.k.mut = true → ∃ (j : Nat) (c : Blk), H[j]? = some c ∧ c.k.mut = true ∧ (σ j).blk = (σ' i).blk)

theorem Drop.refl (n0 : Nat) (v : V) (H : List Blk) (h : n0 ≤ H.length) : Drop n0 v H v H :=
  fun σ _ hr hl => ⟨σ, fun _ _ => rfl, hr, rfl, hl, h, fun i b hi hm => ⟨i, b, hi, hm, rfl⟩⟩

theorem Drop.cut (n0 : Nat) (v : V) (H L : List Blk) (hn : H.length = n0) (hv : v.lt n0) (hw : ∀ b ∈ H, ∀ c ∈ b.cells, V.lt n0 c) : Drop n0 v (H ++ L) v H := by
  subst hn
  intro σ w hr hl
  have get : ∀ (i : Nat) (b : Blk), H[i]? = some b → (H ++ L)[i]? = some b := fun i b hi => by
    rw [List.getElem?_append_left (List.getElem?_eq_some_iff.1 hi).1]; exact hi
  refine ⟨σ, fun _ _ => rfl, ⟨fun i b hi => hr.holds i b (get i b hi), fun i j bi bj hne hi hj => hr.sep i j bi bj hne (get i bi hi) (get j bj hj), fun i b hi c hc => ⟨hw b (List.mem_of_getElem? hi) c hc, (hr.wf i b (get i b hi) c hc).2⟩⟩, rfl, hv, Nat.le_refl _, fun i b hi hm => ⟨i, b, get i b hi, hm, rfl⟩⟩

theorem Drop.one (n0 : Nat) (v v' : V) (H L : List Blk) (k : Nat) (b : Blk) (hn : H.length = n0) (hb : L[k]? = some b) (hv' : v'.lt (n0 + 1))
    (hv : ∀ σ : Nat → Loc, conc (upσ σ n0 (σ (n0 + k))) v' = conc σ v)
    (hw : ∀ b ∈ H, ∀ c ∈ b.cells, V.lt n0 c) (hbw : ∀ c ∈ b.cells, V.lt n0 c) : Drop n0 v (H ++ L) v' (H ++ [b]) := by
  subst hn
  intro σ w hr hl
  have get : ∀ (i : Nat) (b : Blk), H[i]? = some b → i < H.length ∧ (H ++ L)[i]? = some b := fun i b hi => by
    have hlt := (List.getElem?_eq_some_iff.1 hi).1
    rw [List.getElem?_append_left hlt]; exact ⟨hlt, hi⟩
  have getb : (H ++ L)[H.length + k]? = some b := by rw [List.getElem?_append_right (Nat.le_add_right _ _), Nat.add_sub_cancel_left]; exact hb
  have cs : ∀ (i : Nat) (x : Blk), (H ++ [b])[i]? = some x → (H[i]? = some x) ∨ (i = H.length ∧ x = b) := by
    intro i x hx
    rcases Nat.lt_trichotomy i H.length with hi | hi | hi
    · rw [List.getElem?_append_left hi] at hx; exact .inl hx
    · subst hi; rw [List.getElem?_append_right (Nat.le_refl _)] at hx; simp at hx; exact .inr ⟨rfl, hx.symm⟩
    · rw [List.getElem?_eq_none (by simp; omega)] at hx; cases hx
  let σ' : Nat → Loc := upσ σ H.length (σ (H.length + k))
  have s1 : ∀ i, i < H.length → σ' i = σ i := fun i hi => upσ_lt _ _ _ _ hi
  have s2 : σ' H.length = σ (H.length + k) := upσ_same _ _ _
  have hold : ∀ (i : Nat) (x : Blk), (H ++ [b])[i]? = some x → Holds σ' w i x := by
    intro i x hx
    rcases cs i x hx with hi | ⟨rfl, rfl⟩
    · obtain ⟨hlt, hg⟩ := get i x hi
      exact (hr.holds i x hg).congr (s1 i hlt) (concs_congr s1 _ ((lts_iff _ _).2 fun c hc => hw x (List.mem_of_getElem? hi) c hc)) (Nat.le_refl _) (fun _ => rfl)
    · have hh := hr.holds _ x getb
      have ec : concs σ' x.cells = concs σ x.cells := concs_congr s1 _ ((lts_iff _ _).2 hbw)
      unfold Holds at hh ⊢
      rw [s2, ec]
      exact hh
  refine ⟨σ', s1, ⟨hold, fun i j bi bj hne hi hj l1 m2 => ?_, fun i x hx c hc => ?_⟩, hv σ, by simpa using hv', by simp, fun i x hx hm => ?_⟩
  · rcases cs i bi hi with gi | ⟨ei, fi⟩ <;> rcases cs j bj hj with gj | ⟨ej, fj⟩
    · rw [s1 i (get i bi gi).1, s1 j (get j bj gj).1]; exact hr.sep i j bi bj hne (get i bi gi).2 (get j bj gj).2 l1 m2
    · subst fj; rw [s1 i (get i bi gi).1, ej, s2]
      exact hr.sep i (H.length + k) bi bj (by have := (get i bi gi).1; omega) (get i bi gi).2 getb l1 m2
    · subst fi; rw [s1 j (get j bj gj).1, ei, s2]
      exact hr.sep (H.length + k) j bi bj (by have := (get j bj gj).1; omega) getb (get j bj gj).2 l1 m2
    · exact absurd (ei.trans ej.symm) hne
  · simp only [List.length_append, List.length_singleton]
    rcases cs i x hx with hi | ⟨rfl, rfl⟩
    · exact ⟨V.lt_mono (Nat.le_succ _) _ (hw x (List.mem_of_getElem? hi) c hc), (hr.wf i x (get i x hi).2 c hc).2⟩
    · exact ⟨V.lt_mono (Nat.le_succ _) _ (hbw c hc), (hr.wf _ x getb c hc).2⟩
  · rcases cs i x hx with hi | ⟨rfl, rfl⟩
    · exact ⟨i, x, (get i x hi).2, hm, by rw [s1 i (get i x hi).1]⟩
    · exact ⟨_, x, getb, hm, by rw [s2]⟩

def fin (P : Program) (n0 : Nat) (rs : List ResultVar) (R : V → List Blk → Prop) : Exit → St → Prop
  | .normal, s | .ret, s => match resL P s rs with
    | some (p, vs) => p ∧ ∃ v' H', Drop n0 (retV vs) s.heap v' H' ∧ R v' H'
    | none => False
  | _, _ => False

section
variable {P : Program} {E : En} {σ : Nat → Loc} {s : St} {a : Act} {w : World}
theorem asAddr_some (x : Addr) : asAddr (.pointer (some x)) = pure x := rfl
theorem resL_sound (h : Rel E σ s a w) : ∀ (rs : List ResultVar) (p : Prop) (vs : List V), resL P s rs = some (p, vs) → p →
    (rs.mapM (fun | .tmp t => pure (a.tmps.getD t undef) | .cell b t => do loadVar t (← asAddr (a.tmps.getD b undef)) : ResultVar → Sem Value)).run P w = .ok (concs σ vs) w ∧ lts s.heap.length vs
  | [], p, vs, hr, hp => by
    simp only [resL, Option.some.injEq, Prod.mk.injEq] at hr
    obtain ⟨_, rfl⟩ := hr
    exact ⟨by simp [concs], trivial⟩
  | .tmp t :: rs, p, vs, hr, hp => by
    unfold resL at hr
    obtain ⟨⟨q1, q2⟩, hq, hr⟩ := Option.map_eq_some_iff.1 hr
    cases hr
    obtain ⟨h1, h2⟩ := resL_sound h rs q1 q2 hq hp.2
    have hv := (h.mt (.tmp t)).ne (solid_ne hp.1)
    have hl := h.evlt (.tmp t)
    simp only [Act.eval, Go.Sx.ev] at hv hl
    refine ⟨?_, hl, h2⟩
    rw [List.mapM_cons]
    simp only [Sem.run_bind, Sem.run_pure, Result.andThen_ok, h1, hv, concs]
  | .cell b t :: rs, p, vs, hr, hp => by
    unfold resL at hr
    split at hr
    · rename_i pv v hld
      obtain ⟨⟨q1, q2⟩, hq, hr⟩ := Option.map_eq_some_iff.1 hr
      cases hr
      obtain ⟨h1, h2⟩ := resL_sound h rs q1 q2 hq hp.2
      have hne : nth s.slots b ≠ .any := by intro e; rw [e] at hld; simp [ldV] at hld
      have hv := (h.mt (.tmp b)).ne hne
      simp only [Act.eval, Go.Sx.ev] at hv
      have hrun := ldV_sound (P := P) h.heap hld hp.1
      refine ⟨?_, ldV_lt h.heap hld, h2⟩
      rw [List.mapM_cons]
      simp only [Sem.run_bind, hv]
      unfold ldV at hld
      split at hld
      · rename_i i off hx
        rw [hx] at hrun ⊢
        simp only [Instr.loadAt, conc, Instr.sureAddr, Sem.run_bind, Sem.run_pure, Result.andThen_ok] at hrun
        simp only [conc, asAddr_some, Sem.run_bind, Sem.run_pure, Result.andThen_ok, hrun, h1, concs]
      · cases hld
    · cases hr

theorem results_run {fn : Func} (h : Rel E σ s a w) {p : Prop} {vs : List V} (hr : resL P s fn.results.toList = some (p, vs)) (hp : p) :
    (results fn a.tmps).run P w = .ok (conc σ (retV vs)) w ∧ (retV vs).lt s.heap.length := by
  obtain ⟨h1, h2⟩ := resL_sound h fn.results.toList p vs hr hp
  constructor
  · unfold results
    rw [Array.mapM_eq_mapM_toList]
    simp only [Sem.run_bind, Sem.run_map]
    refine Eq.trans (congrArg (fun r => (Result.andThen (Result.andThen r fun a w' => Result.ok a.toArray w') fun vs w' => Sem.run P (pure (if h : vs.size = 1 then vs[0] else .tuple vs)) w')) h1) ?_
    simp only [Result.andThen_ok, Sem.run_pure]
    congr 1
    match vs with
    | [] => simp [retV, concs, conc]
    | [v] => simp [retV, concs]
    | x :: y :: r => simp [retV, concs, conc]
  · match vs, h2 with
    | [], _ => exact trivial
    | [v], h2 => exact h2.1
    | x :: y :: r, h2 => exact h2
end

def HWf (H : List Blk) : Prop := ∀ b ∈ H, ∀ c ∈ b.cells, V.lt H.length c

theorem cal_intro {P : Program} {D : Nat → Array Oper → (St → Prop) → St → Prop} (hD : DrawLaw P D) {f : FuncId} {fn : Func} {c : Code} {args : List V} {H : List Blk} {R : V → List Blk → Prop}
    (hf : P.funcs[f]? = some fn) (hb : fn.body = some c) (hname : (fn.name != "runtime.NumGoroutine") = true)
    (h : HWf H → W P H.length (D H.length) c (fin P H.length fn.results.toList R) ⟨args ++ List.replicate (fn.ntmps - args.length) .any, H⟩) : Cal P f args H R := by
  refine ⟨by simp [callable, hf, hb]; simpa using hname, fun σ w hr hl => ?_⟩
  have hw := h fun b hbm c hc => by obtain ⟨i, hi⟩ := List.getElem?_of_mem hbm; exact (hr.wf i b hi c hc).1
  refine calls_of_wp hf hb ?_
  let E : En := ⟨σ, H, w⟩
  have hrel : Rel E σ ⟨args ++ List.replicate (fn.ntmps - args.length) .any, H⟩ { tmps := (concs σ args).toArray ++ Array.replicate (fn.ntmps - (concs σ args).toArray.size) undef, defers := [] } w := by
    refine ⟨rfl, by simp [concs_length], fun t v hv => ?_, fun v hv => ?_, hr, Nat.le_refl _, fun _ _ => rfl, Fr.refl _ _ _, fun i b hi hm => .inr ⟨i, b, hi, hm, rfl⟩⟩
    · simp only at hv
      rcases Nat.lt_or_ge t args.length with ht | ht
      · rw [List.getElem?_append_left ht] at hv
        right
        rw [Array.getElem?_append_left (by simpa [concs_length] using ht)]
        simp [concs_get, hv]
      · rw [List.getElem?_append_right ht, List.getElem?_replicate] at hv
        split at hv
        · cases hv; exact .inl rfl
        · cases hv
    · rcases List.mem_append.1 hv with hv | hv
      · exact lts_mem hl hv
      · rw [(List.mem_replicate.1 hv).2]; trivial
  refine wp_mono (W_sound hD E c _ σ _ _ w hrel hw) ?_
  rintro e a' w' ⟨σ', s', hq, hr'⟩
  have main : (match resL P s' fn.results.toList with | some (p, vs) => p ∧ ∃ v' H', Drop H.length (retV vs) s'.heap v' H' ∧ R v' H' | none => False) →
      a'.defers = [] ∧ ∃ v, (results fn a'.tmps).run P w' = .ok v w' ∧ ∃ v1 H' σ1, R v1 H' ∧ Ending.returned v = .returned (conc σ1 v1) ∧ v1.lt H'.length ∧ H.length ≤ H'.length ∧
      (∀ i, i < H.length → σ1 i = σ i) ∧ HRel σ1 H' w' ∧ Fr σ H w w' ∧
      (∀ (i : Nat) (b : Blk), H'[i]? = some b → b.k.mut = true → w.heap.size ≤ (σ1 i).blk ∨ ∃ (i0 : Nat) (b0 : Blk), H[i0]? = some b0 ∧ b0.k.mut = true ∧ (σ i0).blk = (σ1 i).blk) := by
    intro hm
    split at hm
    · rename_i p vs hres
      obtain ⟨hp, v', H', hdrop, hR⟩ := hm
      obtain ⟨hrun, hlt⟩ := results_run hr' hres hp
      obtain ⟨σ1, h1, h2, h3, h4, h5, h6⟩ := hdrop σ' w' hr'.heap hlt
      refine ⟨hr'.defers, _, hrun, v', H', σ1, hR, by rw [h3], h4, h5, fun i hi => by rw [h1 i hi]; exact hr'.agree i hi, h2, hr'.fr, fun i b hi hm => ?_⟩
      obtain ⟨j, cb, hj, hmj, ej⟩ := h6 i b hi hm
      rw [← ej]
      exact hr'.new j cb hj hmj
    · exact hm.elim
  cases e with
  | normal => exact main hq
  | ret => exact main hq
  | exit id => exact hq.elim
  | goto l => exact hq.elim
  | panic ch => exact hq.elim
  | outgrown => exact hq.elim
end Go.Sx
namespace Go.Sx
open Go.RowKit

/-! ### Regions that draw their order: the last writer before -/
def last {α : Type} : (n : Nat) → (W : Nat → Option α) → α → α
  | 0, _, x => x
  | n + 1, W, x => match W n with
    | some y => y
    | none => last n W x

theorem last_congr {α : Type} {W W' : Nat → Option α} {x : α} : ∀ (n : Nat), (∀ k, k < n → W k = W' k) → last n W x = last n W' x
  | 0, _ => rfl
  | n + 1, h => by simp only [last, h n (Nat.lt_succ_self n), last_congr n fun k hk => h k (Nat.lt_succ_of_lt hk)]
theorem last_below {α : Type} {W : Nat → Option α} {x : α} (i : Nat) : ∀ (n : Nat), i ≤ n → (∀ k, i ≤ k → k < n → W k = none) → last n W x = last i W x
  | 0, hi, _ => by have : i = 0 := by omega
                   subst this; rfl
  | n + 1, hi, h => by
    rcases Nat.lt_or_ge n i with hn | hn
    · have : i = n + 1 := by omega
      subst this; rfl
    · simp only [last, h n hn (Nat.lt_succ_self n)]
      exact last_below i n hn fun k h1 h2 => h k h1 (Nat.lt_succ_of_lt h2)
theorem last_at {α : Type} {W : Nat → Option α} {x y : α} (i n : Nat) (hi : i < n) (hw : W i = some y) (h : ∀ k, i < k → k < n → W k = none) : last n W x = y := by
  rw [last_below (i + 1) n hi fun k h1 h2 => h k h1 h2]
  simp only [last, hw]

inductive LE where
  | n
  | rd (i : Nat)
  | wr (i : Nat)
  | al (i : Nat)
  | cl (len : Nat) (hid : List Nat)

structure Tm where
  v : V
  b : Option (Nat × Blk)
  e : LE

def dir (o : Oper) : List Nat := (o.after.toList.filter fun e => Region.binds .any e).map (·.on)
def dirs (ops : Array Oper) (i : Nat) : List Nat := match ops[i]? with | some o => dir o | none => []
def pr (pre : List (List Nat)) (i : Nat) : List Nat := pre.getD i []

def chkPre (ops : Array Oper) (pre : List (List Nat)) : Bool := (List.range ops.size).all fun i => (pr pre i).all fun j => (dirs ops i).contains j || (dirs ops i).any fun e => (pr pre e).contains j
def dsto (ops : Array Oper) (i : Nat) : Option Tmp := (ops[i]?).bind (·.dst)
def looks (ops : Array Oper) (i : Nat) : List Tmp := match ops[i]? with | some o => o.looksAt ops | none => []
def chkSlots (ops : Array Oper) (pre : List (List Nat)) (n : Nat) : Bool := (List.range n).all fun i => (List.range n).all fun k => i == k || match dsto ops k with
  | some d => !((looks ops i).contains d || dsto ops i == some d) || (decide (k < i) && (pr pre i).contains k) || (decide (i < k) && (pr pre k).contains i)
  | none => true
def chkTail (ops : Array Oper) (pre : List (List Nat)) (n : Nat) : Bool := (List.range ops.size).all fun j => decide (j < n) || (List.range j).all fun k => (pr pre j).contains k

def okRd (pr : List Nat) (idx : Nat) (log : List Tm) : (k : Nat) → Prop
  | 0 => True
  | k + 1 => okRd pr idx log k ∧ match (log[k]?).map Tm.e with
    | some (.wr j) => k ∈ pr ∨ idx ≠ j
    | some (.al j) => k ∈ pr ∨ idx ≠ j
    | _ => True
def okWr (pr : List Nat) (idx : Nat) (log : List Tm) : (k : Nat) → Prop
  | 0 => True
  | k + 1 => okWr pr idx log k ∧ match (log[k]?).map Tm.e with
    | some (.wr j) => k ∈ pr ∨ idx ≠ j
    | some (.al j) => k ∈ pr ∨ idx ≠ j
    | some (.rd j) => k ∈ pr ∨ idx ≠ j
    | some (.cl len hid) => k ∈ pr ∨ idx ∈ hid ∨ len ≤ idx
    | _ => True
def okCl (pr : List Nat) (hid : List Nat) (log : List Tm) : (k : Nat) → Prop
  | 0 => True
  | k + 1 => okCl pr hid log k ∧ match (log[k]?).map Tm.e with
    | some (.wr j) => k ∈ pr ∨ j ∈ hid
    | some (.al j) => k ∈ pr ∨ j ∈ hid
    | _ => True
def okNo (pr : List Nat) (vs : List V) (log : List Tm) : (k : Nat) → Prop
  | 0 => True
  | k + 1 => okNo pr vs log k ∧ match (log[k]?).map Tm.e with
    | some (.al j) => k ∈ pr ∨ norefs j vs = true
    | _ => True

theorem okRd_at {pr : List Nat} {idx : Nat} {log : List Tm} : ∀ {n : Nat}, okRd pr idx log n → ∀ k, k < n → ∀ j, ((log[k]?).map Tm.e = some (.wr j) ∨ (log[k]?).map Tm.e = some (.al j)) → k ∈ pr ∨ idx ≠ j
  | 0, _, k, hk, _, _ => absurd hk (Nat.not_lt_zero k)
  | n + 1, h, k, hk, j, hj => by
    obtain ⟨h1, h2⟩ := h
    rcases Nat.lt_or_ge k n with hlt | hge
    · exact okRd_at h1 k hlt j hj
    · have : k = n := by omega
      subst this
      rcases hj with hj | hj <;> rw [hj] at h2 <;> exact h2
theorem okWr_at {pr : List Nat} {idx : Nat} {log : List Tm} : ∀ {n : Nat}, okWr pr idx log n → ∀ k, k < n → (∀ j, ((log[k]?).map Tm.e = some (.wr j) ∨ (log[k]?).map Tm.e = some (.al j) ∨ (log[k]?).map Tm.e = some (.rd j)) → k ∈ pr ∨ idx ≠ j) ∧
    (∀ len hid, (log[k]?).map Tm.e = some (.cl len hid) → k ∈ pr ∨ idx ∈ hid ∨ len ≤ idx)
  | 0, _, k, hk => absurd hk (Nat.not_lt_zero k)
  | n + 1, h, k, hk => by
    obtain ⟨h1, h2⟩ := h
    rcases Nat.lt_or_ge k n with hlt | hge
    · exact okWr_at h1 k hlt
    · have : k = n := by omega
      subst this
      refine ⟨fun j hj => ?_, fun len hid hj => by rw [hj] at h2; exact h2⟩
      rcases hj with hj | hj | hj <;> rw [hj] at h2 <;> exact h2
theorem okCl_at {pr hid : List Nat} {log : List Tm} : ∀ {n : Nat}, okCl pr hid log n → ∀ k, k < n → ∀ j, ((log[k]?).map Tm.e = some (.wr j) ∨ (log[k]?).map Tm.e = some (.al j)) → k ∈ pr ∨ j ∈ hid
  | 0, _, k, hk, _, _ => absurd hk (Nat.not_lt_zero k)
  | n + 1, h, k, hk, j, hj => by
    obtain ⟨h1, h2⟩ := h
    rcases Nat.lt_or_ge k n with hlt | hge
    · exact okCl_at h1 k hlt j hj
    · have : k = n := by omega
      subst this
      rcases hj with hj | hj <;> rw [hj] at h2 <;> exact h2
theorem okNo_at {pr : List Nat} {vs : List V} {log : List Tm} : ∀ {n : Nat}, okNo pr vs log n → ∀ k, k < n → ∀ j, (log[k]?).map Tm.e = some (.al j) → k ∈ pr ∨ norefs j vs = true
  | 0, _, k, hk, _, _ => absurd hk (Nat.not_lt_zero k)
  | n + 1, h, k, hk, j, hj => by
    obtain ⟨h1, h2⟩ := h
    rcases Nat.lt_or_ge k n with hlt | hge
    · exact okNo_at h1 k hlt j hj
    · have : k = n := by omega
      subst this
      rw [hj] at h2; exact h2

def deadB : Blk := ⟨[], 0, .dead⟩

def hide (hid : List Nat) (H : List Blk) : List Blk := (List.range H.length).map fun i => if i ∈ hid then deadB else H.getD i deadB

theorem hide_get (hid : List Nat) (H : List Blk) (i : Nat) : (hide hid H)[i]? = (H[i]?).map fun b => if i ∈ hid then deadB else b := by
  unfold hide
  rw [List.getElem?_map]
  rcases Nat.lt_or_ge i H.length with hi | hi
  · rw [List.getElem?_range hi, List.getElem?_eq_getElem hi]
    simp [List.getD, List.getElem?_eq_getElem hi]
  · rw [List.getElem?_eq_none (by simpa using hi), List.getElem?_eq_none hi]; rfl
theorem hide_length (hid : List Nat) (H : List Blk) : (hide hid H).length = H.length := by simp [hide]

theorem Ret.frame {P : Program} {f : FuncId} {args : List V} {H H2 : List Blk} {v : V} (h : callable P f = true ∧ Ret P f args H v H)
    (hsub : ∀ (i : Nat) (b : Blk), H[i]? = some b → b.k.live = true → H2[i]? = some b) (hlen : H.length ≤ H2.length) (hwf : ∀ b ∈ H, ∀ c ∈ b.cells, V.lt H.length c ∧ c.one = true) (hargs : lts H.length args) :
    callable P f = true ∧ Ret P f args H2 v H2 := by
  refine ⟨h.1, fun σ w hr _ => ?_⟩
  have hr1 : HRel σ H w := by
    refine ⟨fun i b hi => ?_, fun i j bi bj hne hi hj l1 m2 => ?_, fun i b hi c hc => ?_⟩
    · cases hl : b.k.live with
      | true => exact hr.holds i b (hsub i b hi hl)
      | false => unfold Holds; cases hk : b.k <;> simp_all [BK.live]
    · exact hr.sep i j bi bj hne (hsub i bi hi l1) (hsub j bj hj (by cases hkk : bj.k <;> simp_all [BK.mut, BK.live])) l1 m2
    · exact hwf b (List.mem_of_getElem? hi) c hc
  refine (h.2 σ w hr1 hargs).mono ?_
  rintro e w' ⟨v1, H', σ', ⟨rfl, rfl⟩, rfl, hvl, _, hagr, hrel, hfr, hnew⟩
  let σ2 : Nat → Loc := fun i => if i < H'.length then σ' i else σ i
  have e1 : ∀ i, i < H'.length → σ2 i = σ' i := fun i hi => by simp [σ2, hi]
  have e2 : ∀ i, σ2 i = σ i := fun i => by
    by_cases hi : i < H'.length
    · rw [e1 i hi, hagr i hi]
    · simp [σ2, hi]
  have hblk : ∀ (i : Nat) (b : Blk), H2[i]? = some b → b.k.live = true → (¬ ∃ b', H'[i]? = some b' ∧ b'.k.live = true) → w'.heap[(σ i).blk]? = w.heap[(σ i).blk]? := by
    intro i b hi hl hno
    refine hfr.block _ (hr.blk_lt hi hl) fun j bj hj hm he => ?_
    have hlj : bj.k.live = true := by cases hkk : bj.k <;> simp_all [BK.mut, BK.live]
    have hne : i ≠ j := fun e => hno ⟨bj, by rw [e]; exact hj, hlj⟩
    exact hr.sep i j b bj hne hi (hsub j bj hj hlj) hl hm he.symm
  have hcc : ∀ x : V, conc σ2 x = conc σ x := fun x => by rw [show σ2 = σ from funext e2]
  have hcs : ∀ x : List V, concs σ2 x = concs σ x := fun x => by rw [show σ2 = σ from funext e2]
  refine ⟨v1, H2, σ2, ⟨rfl, rfl⟩, ?_, V.lt_mono hlen _ hvl, Nat.le_refl _, fun i _ => e2 i, ⟨fun i b hi => ?_, fun i j bi bj hne hi hj l1 m2 => ?_, hr.wf⟩, ⟨hfr.os, hfr.tape, hfr.output, hfr.size, fun k hk hno => ?_⟩, fun i b hi hm => .inr ⟨i, b, hi, hm, by rw [e2 i]⟩⟩
  · rw [hcc, conc_congr (σ := σ) (σ' := σ') hagr v1 hvl]
  · by_cases hex : ∃ b', H'[i]? = some b' ∧ b'.k.live = true
    · obtain ⟨b', hb', hl'⟩ := hex
      have : b' = b := by have := hsub i b' hb' hl'; rw [hi] at this; exact (Option.some.inj this).symm
      subst this
      have hlt : i < H'.length := (List.getElem?_eq_some_iff.1 hb').1
      refine (hrel.holds i b' hb').congr (e1 i hlt) ?_ (Nat.le_refl _) (fun _ => rfl)
      rw [hcs, concs_congr (σ := σ) (σ' := σ') hagr _ ((lts_iff _ _).2 fun c hc => (hwf b' (List.mem_of_getElem? hb') c hc).1)]
    · exact (hr.holds i b hi).congr (e2 i) (hcs _) hfr.size fun hl => hblk i b hi hl hex
  · rw [e2 i, e2 j]; exact hr.sep i j bi bj hne hi hj l1 m2
  · exact hfr.block k hk fun j bj hj hm => hno j bj (hsub j bj hj (by cases hkk : bj.k <;> simp_all [BK.mut, BK.live])) hm
end Go.Sx
namespace Go.Sx
open Go.RowKit

inductive AV where
  | p
  | s (len : Nat) (c : Cap)
def AV.at_ : AV → Nat → V
  | .p, n => .p n 0
  | .s len c, n => .s n 0 len c

def V.capKnown : V → Bool
  | .s _ _ _ (.u _) => false
  | .s _ _ _ (.i _) => false
  | _ => true
theorem capOk_known {hp : List Blk} {x : V} (h : x.capKnown = true) : capOk hp x = True := by
  unfold V.capKnown at h
  split at h
  · cases h
  · cases h
  · rename_i hne hne2
    unfold capOk
    split
    · exact absurd rfl (hne _ _ _ _)
    · exact absurd rfl (hne2 _ _ _ _)
    · rfl
theorem sliceV_known {P : Program} {R R' : Nat → Int → Prop} {t : TypeId} {x : V} {lo hi mx : Option V} (h : x.capKnown = true) : sliceV P R t x lo hi mx = sliceV P R' t x lo hi mx := by
  unfold sliceV
  generalize bnd lo = a
  generalize bnd hi = b
  generalize bnd mx = c
  cases x with
  | s i off len k => cases k <;> first | (cases h; done) | (rcases a with _ | a <;> rcases b with _ | b <;> rcases c with _ | c <;> rfl)
  | v z =>
    cases z with
    | string s => rcases a with _ | a <;> rcases b with _ | b <;> rcases c with _ | _ | c <;> rfl
    | slice p n m => rcases p with _ | p <;> rcases n with _ | n <;> rcases m with _ | m <;> rcases a with _ | a <;> rcases b with _ | b <;> rcases c with _ | _ | c <;> rfl
    | _ => rfl
  | p i off => rcases a with _ | a <;> rcases b with _ | b <;> rcases c with _ | _ | c <;> rfl
  | _ => rfl
def slcV (P : Program) (t : TypeId) (x : V) (lo hi mx : Option V) : Option (Prop × V) := if x.capKnown = true then sliceV P (fun _ _ => False) t x lo hi mx else none
def pureV (P : Program) (sl : List V) : Op → Option (Prop × V)
  | .slice t x lo hi mx => slcV P t (ev sl x) (lo.map (ev sl)) (hi.map (ev sl)) (mx.map (ev sl))
  | .build t parts => buildV P t (parts.toList.map fun q => (q.1, ev sl q.2))
  | .makeFunc (.func n) ⟨[]⟩ caps => some ((caps.toList.map (ev sl)).all V.solid = true, .f n (caps.toList.map (ev sl)))
  | o => pv P (ev sl) o

def newV (P : Program) (sl : List V) : Op → Option (Prop × AV × Blk)
  | .alloc t => (zeroL P t).map fun z => (True, .p, ⟨z, t, .fix⟩)
  | .box t x => some ((ev sl x).solid = true, .p, ⟨cellsL (ev sl x), t, .fix⟩)
  | .buildSlice t len parts => (bslV P 0 t len (parts.toList.map fun q => (q.1, ev sl q.2))).map fun q => (q.1, .s len (.u 0), q.2.2)
  | .makeSlice t l c => match ev sl l, ev sl c with
    | .v (.int _ m), .v (.int _ n) => (mkV P 0 t (ev sl l) (ev sl c)).map fun q => (q.1, .s m.toNat (.k n.toNat), q.2.2)
    | _, _ => none
  | _ => none

def stB (P : Program) (hp : List Blk) (t : TypeId) (x : V) : V → Option (Prop × Nat × Blk)
  | .p i off => match hp[i]?, szo P t with
    | some b, some n => some (b.k.mut = true ∧ x.solid = true ∧ (cellsL x).length = n ∧ off + (cellsL x).length ≤ b.cells.length, i, { b with cells := wr b.cells off (cellsL x) })
    | _, _ => none
  | _ => none

theorem stV_of_stB {P : Program} {hp : List Blk} {t : TypeId} {x y : V} {p : Prop} {i : Nat} {b : Blk} (h : stB P hp t x y = some (p, i, b)) : stV P hp t x y = some (p, hp.set i b) := by
  unfold stB at h
  unfold stV
  split at h
  · split at h
    · cases h; rename_i hb hn; simp [hb, hn]
    · cases h
  · cases h

theorem opV_pure {P : Program} {n0 : Nat} {s : St} {o : Op} {p : Prop} {v : V} (h : pureV P s.slots o = some (p, v)) : opV P n0 s o = some (p, v, s) := by
  unfold pureV at h
  split at h
  · unfold slcV at h
    split at h
    · rename_i hk
      simp only [opV, slV, sliceV_known (R := reachTo s.heap (ev s.slots _)) (R' := fun _ _ => False) hk, h, Option.map_some, capOk_known hk, and_true]
    · cases h
  · simp only [opV, h, Option.map_some]
  · simp only [Option.some.injEq, Prod.mk.injEq] at h
    obtain ⟨rfl, rfl⟩ := h
    rfl
  · unfold opV
    split <;> first | (simp only [h, Option.map_some]; done) | (simp only [pv] at h; simp only [cvV, h]; done) | (exfalso; simp [pv] at h; done) | (exfalso; simp_all; done) | skip

theorem opV_new {P : Program} {n0 : Nat} {s : St} {o : Op} {p : Prop} {r : AV} {b : Blk} (h : newV P s.slots o = some (p, r, b)) : opV P n0 s o = some (p, r.at_ s.heap.length, ⟨s.slots, s.heap ++ [b]⟩) := by
  unfold newV at h
  split at h
  · obtain ⟨z, hz, h⟩ := Option.map_eq_some_iff.1 h
    cases h
    simp [opV, hz, AV.at_]
  · cases h
    simp [opV, AV.at_]
  · obtain ⟨q, hq, h⟩ := Option.map_eq_some_iff.1 h
    cases h
    unfold bslV at hq
    split at hq
    · split at hq
      · obtain ⟨q2, hq2, hq⟩ := Option.map_eq_some_iff.1 hq
        subst hq
        rename_i h1 _ _ h2
        simp [opV, bslV, h1, h2, hq2, AV.at_]
      · cases hq
    · cases hq
  · split at h
    · rename_i k1 m k2 n h1 h2
      obtain ⟨q, hq, h⟩ := Option.map_eq_some_iff.1 h
      cases h
      rw [h1, h2] at hq
      rename_i t _ _ _ _
      cases hs : slo P t with
      | none => simp [mkV, hs] at hq
      | some e =>
        obtain ⟨e1, e2, e3⟩ := e
        cases hz : zeroL P e1 with
        | none => simp [mkV, hs, hz] at hq
        | some z =>
          simp only [mkV, hs, hz, Option.some.injEq] at hq
          subst hq
          simp [opV, h1, h2, mkV, hs, hz, AV.at_]
    · cases h
  · cases h

theorem ev_congr {sl sl' : List V} {x : Operand} (h : ∀ t, x = .tmp t → nth sl t = nth sl' t) : ev sl x = ev sl' x := by
  cases x with
  | tmp t => exact h t rfl
  | _ => rfl

theorem pv_congr {P : Program} {ρ ρ' : Operand → V} {o : Op} (h : ∀ x ∈ o.operands, ρ x = ρ' x) : pv P ρ o = pv P ρ' o := by
  unfold pv
  split <;> first | rfl | (simp [Op.operands, Call.operands] at h; simp_all)

theorem pureV_congr {P : Program} {sl sl' : List V} {o : Op} (h : ∀ x ∈ o.operands, ev sl x = ev sl' x) : pureV P sl o = pureV P sl' o := by
  unfold pureV
  split
  · rename_i t x lo hi mx
    have hx : ev sl x = ev sl' x := h x (by simp [Op.operands])
    have e : ∀ (m : Option Operand), (∀ y, m = some y → y ∈ (Op.slice t x lo hi mx).operands) → m.map (ev sl) = m.map (ev sl') := fun m hm => by
      cases m with
      | none => rfl
      | some y => simp only [Option.map_some]; rw [h y (hm y rfl)]
    rw [hx, e lo (by rintro y rfl; simp [Op.operands]), e hi (by rintro y rfl; simp [Op.operands]), e mx (by rintro y rfl; simp [Op.operands])]
  · rename_i t parts
    have : parts.toList.map (fun q => (q.1, ev sl q.2)) = parts.toList.map (fun q => (q.1, ev sl' q.2)) := List.map_congr_left fun q hq => by
      rw [h q.2 (by simp [Op.operands]; exact ⟨q.1, by simpa using hq⟩)]
    rw [this]
  · rename_i n caps
    have : caps.toList.map (ev sl) = caps.toList.map (ev sl') := List.map_congr_left fun q hq => h q (by simp [Op.operands]; simpa using hq)
    rw [this]
  · exact pv_congr h

theorem newV_congr {P : Program} {sl sl' : List V} {o : Op} (h : ∀ x ∈ o.operands, ev sl x = ev sl' x) : newV P sl o = newV P sl' o := by
  unfold newV
  split
  · rfl
  · rename_i t x; rw [h x (by simp [Op.operands])]
  · rename_i t len parts
    have : parts.toList.map (fun q => (q.1, ev sl q.2)) = parts.toList.map (fun q => (q.1, ev sl' q.2)) := List.map_congr_left fun q hq => by
      rw [h q.2 (by simp [Op.operands]; exact ⟨q.1, by simpa using hq⟩)]
    rw [this]
  · rename_i t l c; rw [h l (by simp [Op.operands]), h c (by simp [Op.operands])]
  · rfl
end Go.Sx
namespace Go.Sx
open Go.RowKit

def cvK (P : Program) (t u : TypeId) : V → Option (Nat × Nat × Nat)
  | .s idx off len _ => match bySl P t, strT P u with
    | some _, true => some (idx, off, len)
    | _, _ => none
  | _ => none
def cvB (off len : Nat) : Option Blk → Option (Prop × V)
  | some b => (u8s (seg b.cells off len)).map fun ns => (b.k.live = true ∧ off + len ≤ b.cells.length, .v (.string (bstr ns)))
  | none => none
theorem cvK_some {P : Program} {t u : TypeId} {x : V} {idx off len : Nat} (h : cvK P t u x = some (idx, off, len)) : ∃ c e, x = .s idx off len c ∧ bySl P t = some e ∧ strT P u = true := by
  unfold cvK at h
  split at h
  · split at h
    · cases h; exact ⟨_, _, rfl, by assumption, by assumption⟩
    · cases h
  · cases h
theorem cvB_lt {off len n : Nat} {o : Option Blk} {p : Prop} {v : V} (h : cvB off len o = some (p, v)) : V.lt n v := by
  unfold cvB at h
  split at h
  · obtain ⟨ns, _, e⟩ := Option.map_eq_some_iff.1 h
    cases e; trivial
  · cases h
theorem cvB_get {off len : Nat} {o : Option Blk} {p : Prop} {v : V} (h : cvB off len o = some (p, v)) : ∃ b, o = some b := by
  unfold cvB at h
  split at h
  · exact ⟨_, rfl⟩
  · cases h

section
variable (P : Program) (ops : Array Oper) (pre : List (List Nat))

inductive TStep (i : Nat) (log : List Tm) (s : St) (o : Oper) : Tm → St → Prop
  | skip : guardV ops s.slots o = some false → TStep i log s o ⟨.t [], none, .n⟩ (s.put o.dst (.t []))
  | pure {p : Prop} {v : V} : guardV ops s.slots o = some true → pureV P s.slots o.op = some (p, v) → p → okNo (pr pre i) [v] log i → TStep i log s o ⟨v, none, .n⟩ (s.put o.dst v)
  | load {t : TypeId} {x : Operand} {idx off : Nat} {p : Prop} {v : V} : guardV ops s.slots o = some true → o.op = .load t x → ev s.slots x = .p idx off → ldV P s.heap t (.p idx off) = some (p, v) → p → okRd (pr pre i) idx log i → okNo (pr pre i) [v] log i →
      TStep i log s o ⟨v, none, .rd idx⟩ (s.put o.dst v)
  | slc {t : TypeId} {x : Operand} {lo hi mx : Option Operand} {idx off len : Nat} {c : Cap} {p : Prop} {v : V} : guardV ops s.slots o = some true → o.op = .slice t x lo hi mx → ev s.slots x = .s idx off len c → slV P s.heap t (.s idx off len c) (lo.map (ev s.slots)) (hi.map (ev s.slots)) (mx.map (ev s.slots)) = some (p, v) → p → idx < s.heap.length → okRd (pr pre i) idx log i → okNo (pr pre i) [v] log i →
      TStep i log s o ⟨v, none, .rd idx⟩ (s.put o.dst v)
  | cnv {t u : TypeId} {x : Operand} {idx off len : Nat} {p : Prop} {v : V} : guardV ops s.slots o = some true → o.op = .convert t u x → cvK P t u (ev s.slots x) = some (idx, off, len) → cvB off len s.heap[idx]? = some (p, v) → p → okRd (pr pre i) idx log i → okNo (pr pre i) [v] log i →
      TStep i log s o ⟨v, none, .rd idx⟩ (s.put o.dst v)
  | store {t : TypeId} {x y : Operand} {idx : Nat} {b : Blk} {p : Prop} : guardV ops s.slots o = some true → o.op = .store t x y → stB P s.heap t (ev s.slots y) (ev s.slots x) = some (p, idx, b) → p → okWr (pr pre i) idx log i → okNo (pr pre i) b.cells log i →
      TStep i log s o ⟨.any, some (idx, b), .wr idx⟩ (St.put ⟨s.slots, s.heap.set idx b⟩ o.dst .any)
  | new {p : Prop} {r : AV} {b : Blk} : guardV ops s.slots o = some true → newV P s.slots o.op = some (p, r, b) → p → okNo (pr pre i) b.cells log i →
      TStep i log s o ⟨r.at_ s.heap.length, some (s.heap.length, b), .al s.heap.length⟩ (St.put ⟨s.slots, s.heap ++ [b]⟩ o.dst (r.at_ s.heap.length))
  | call {f : Operand} {xs : Array Operand} {ats : Array TypeId} {n : Nat} {cs : List V} {v : V} {hid : List Nat} : guardV ops s.slots o = some true → o.op = .call { callee := .value f, args := xs, argTypes := ats } → ev s.slots f = .f n cs →
      (xs.toList.map (ev s.slots)).all V.solid = true → callable P n = true ∧ Ret P n (xs.toList.map (ev s.slots) ++ cs) (hide hid s.heap) v (hide hid s.heap) → okCl (pr pre i) hid log i → okNo (pr pre i) [v] log i → V.lt s.heap.length v →
      TStep i log s o ⟨v, none, .cl s.heap.length hid⟩ (s.put o.dst v)

def WmOp (i : Nat) (o : Oper) (log : List Tm) (s : St) (K : Tm → St → Prop) : Prop :=
  match o.op with
  | .load t x => match ev s.slots x with
    | .p idx off => match ldV P s.heap t (.p idx off) with
      | some (p, v) => p ∧ okRd (pr pre i) idx log i ∧ okNo (pr pre i) [v] log i ∧ K ⟨v, none, .rd idx⟩ (s.put o.dst v)
      | none => False
    | _ => False
  | .slice t x lo hi mx => match (ev s.slots x).capKnown with
    | true => match pureV P s.slots (.slice t x lo hi mx) with
      | some (p, v) => p ∧ okNo (pr pre i) [v] log i ∧ K ⟨v, none, .n⟩ (s.put o.dst v)
      | none => False
    | false => match ev s.slots x with
      | .s idx off len c => match slV P s.heap t (.s idx off len c) (lo.map (ev s.slots)) (hi.map (ev s.slots)) (mx.map (ev s.slots)) with
        | some (p, v) => p ∧ idx < s.heap.length ∧ okRd (pr pre i) idx log i ∧ okNo (pr pre i) [v] log i ∧ K ⟨v, none, .rd idx⟩ (s.put o.dst v)
        | none => False
      | _ => False
  | .convert t u x => match pureV P s.slots (.convert t u x) with
    | some (p, v) => p ∧ okNo (pr pre i) [v] log i ∧ K ⟨v, none, .n⟩ (s.put o.dst v)
    | none => match cvK P t u (ev s.slots x) with
      | some (idx, off, len) => match cvB off len s.heap[idx]? with
        | some (p, v) => p ∧ okRd (pr pre i) idx log i ∧ okNo (pr pre i) [v] log i ∧ K ⟨v, none, .rd idx⟩ (s.put o.dst v)
        | none => False
      | none => False
  | .store t x y => match stB P s.heap t (ev s.slots y) (ev s.slots x) with
    | some (p, idx, b) => p ∧ okWr (pr pre i) idx log i ∧ okNo (pr pre i) b.cells log i ∧ K ⟨.any, some (idx, b), .wr idx⟩ (St.put ⟨s.slots, s.heap.set idx b⟩ o.dst .any)
    | none => False
  | .call { callee := .value f, args := xs, argTypes := _ } => match ev s.slots f with
    | .f n cs => (xs.toList.map (ev s.slots)).all V.solid = true ∧ ∃ hid v, (callable P n = true ∧ Ret P n (xs.toList.map (ev s.slots) ++ cs) (hide hid s.heap) v (hide hid s.heap)) ∧ okCl (pr pre i) hid log i ∧ okNo (pr pre i) [v] log i ∧ V.lt s.heap.length v ∧
        K ⟨v, none, .cl s.heap.length hid⟩ (s.put o.dst v)
    | _ => False
  | op => match newV P s.slots op with
    | some (p, r, b) => p ∧ okNo (pr pre i) b.cells log i ∧ K ⟨r.at_ s.heap.length, some (s.heap.length, b), .al s.heap.length⟩ (St.put ⟨s.slots, s.heap ++ [b]⟩ o.dst (r.at_ s.heap.length))
    | none => match pureV P s.slots op with
      | some (p, v) => p ∧ okNo (pr pre i) [v] log i ∧ K ⟨v, none, .n⟩ (s.put o.dst v)
      | none => False

def Wm : (i : Nat) → List Oper → List Tm → (St → Prop) → St → Prop
  | _, [], _, F, s => F s
  | i, o :: r, log, F, s => match guardV ops s.slots o with
    | some g => (g = true → WmOp P pre i o log s fun rec s' => Wm (i + 1) r (log ++ [rec]) F s') ∧ (g = false → Wm (i + 1) r (log ++ [⟨.t [], none, .n⟩]) F (s.put o.dst (.t [])))
    | none => False

structure Line (N : Nat) (tl : List Tm) (st : Nat → St) : Prop where
  len : tl.length = N
  step : ∀ i, i < N → ∃ o rec, ops[i]? = some o ∧ tl[i]? = some rec ∧ TStep P ops pre i (tl.take i) (st i) o rec (st (i + 1))

theorem Wm_line : ∀ (r : List Oper) (i : Nat) (log : List Tm) (F : St → Prop) (s : St), Wm P ops pre i r log F s → (∀ j, j < r.length → r[j]? = ops[i + j]?) →
    ∃ (ext : List Tm) (st : Nat → St), ext.length = r.length ∧ st 0 = s ∧ F (st r.length) ∧ ∀ j, j < r.length → ∃ o rec, ops[i + j]? = some o ∧ ext[j]? = some rec ∧ TStep P ops pre (i + j) (log ++ ext.take j) (st j) o rec (st (j + 1))
  | [], i, log, F, s, h, _ => ⟨[], fun _ => s, rfl, rfl, h, fun j hj => absurd hj (Nat.not_lt_zero j)⟩
  | o :: r, i, log, F, s, h, hr => by
    have ho : ops[i]? = some o := by have := hr 0 (by simp); simpa using this.symm
    have key : ∀ (rec : Tm) (s' : St), TStep P ops pre i log s o rec s' → Wm P ops pre (i + 1) r (log ++ [rec]) F s' →
        ∃ (ext : List Tm) (st : Nat → St), ext.length = (o :: r).length ∧ st 0 = s ∧ F (st (o :: r).length) ∧ ∀ j, j < (o :: r).length → ∃ o' rec, ops[i + j]? = some o' ∧ ext[j]? = some rec ∧ TStep P ops pre (i + j) (log ++ ext.take j) (st j) o' rec (st (j + 1)) := by
      intro rec s' hst hw
      obtain ⟨ext, st, h1, h2, h3, h4⟩ := Wm_line r (i + 1) (log ++ [rec]) F s' hw fun j hj => by
        have := hr (j + 1) (by simp; omega)
        rw [show i + 1 + j = i + (j + 1) by omega]; simpa using this
      refine ⟨rec :: ext, fun j => match j with | 0 => s | j + 1 => st j, by simp [h1], rfl, h3, fun j hj => ?_⟩
      cases j with
      | zero =>
        refine ⟨o, rec, ho, rfl, ?_⟩
        simp only [List.take_zero, List.append_nil, Nat.add_zero, h2]
        exact hst
      | succ j =>
        obtain ⟨o', rec', g1, g2, g3⟩ := h4 j (by simp at hj; omega)
        refine ⟨o', rec', by rw [show i + (j + 1) = i + 1 + j by omega]; exact g1, by simpa using g2, ?_⟩
        rw [show i + (j + 1) = i + 1 + j by omega, List.take_succ_cons]
        simpa using g3
    unfold Wm at h
    split at h
    · rename_i g hg
      cases g
      · exact key _ _ (.skip hg) (h.2 rfl)
      · have h := h.1 rfl
        unfold WmOp at h
        split at h
        · rename_i t x hop
          split at h
          · rename_i idx off hx
            split at h
            · rename_i p v hld
              exact key _ _ (.load hg hop hx hld h.1 h.2.1 h.2.2.1) h.2.2.2
            · exact h.elim
          · exact h.elim
        · rename_i t x lo hi mx hop
          split at h
          · split at h
            · rename_i p v hp
              exact key _ _ (.pure hg (by rw [hop]; exact hp) h.1 h.2.1) h.2.2
            · exact h.elim
          · split at h
            · rename_i idx off len c hx
              split at h
              · rename_i p v hs
                exact key _ _ (.slc hg hop hx hs h.1 h.2.1 h.2.2.1 h.2.2.2.1) h.2.2.2.2
              · exact h.elim
            · exact h.elim
        · rename_i t u x hop
          split at h
          · rename_i p v hp
            exact key _ _ (.pure hg (by rw [hop]; exact hp) h.1 h.2.1) h.2.2
          · split at h
            · rename_i idx off len hk
              split at h
              · rename_i p v hb
                exact key _ _ (.cnv hg hop hk hb h.1 h.2.1 h.2.2.1) h.2.2.2
              · exact h.elim
            · exact h.elim
        · rename_i t x y hop
          split at h
          · rename_i p idx b hs
            exact key _ _ (.store hg hop hs h.1 h.2.1 h.2.2.1) h.2.2.2
          · exact h.elim
        · rename_i f xs ats hop
          split at h
          · rename_i n cs hf
            obtain ⟨hsol, hid, v, hret, hcl, hno, hlt, hw⟩ := h
            exact key _ _ (.call hg hop hf hsol hret hcl hno hlt) hw
          · exact h.elim
        · split at h
          · rename_i p rr b hn
            exact key _ _ (.new hg hn h.1 h.2.1) h.2.2
          · split at h
            · rename_i p v hp
              exact key _ _ (.pure hg hp h.1 h.2.1) h.2.2
            · exact h.elim
    · exact h.elim

def AWf (s : St) : Prop := (∀ v ∈ s.slots, V.lt s.heap.length v) ∧ ∀ b ∈ s.heap, ∀ c ∈ b.cells, V.lt s.heap.length c ∧ c.one = true
end

theorem AWf.ev {s : St} (h : AWf s) (x : Operand) : V.lt s.heap.length (Go.Sx.ev s.slots x) := by
  cases x with
  | tmp t => exact nth_lt ((lts_iff _ _).2 h.1) t
  | const v => cases v <;> first | rfl | exact trivial
  | global g => rfl
  | func f => trivial

theorem AWf.put {s : St} (h : AWf s) (d : Option Tmp) {v : V} (hv : V.lt s.heap.length v) : AWf (s.put d v) := by
  cases d with
  | none => exact h
  | some d =>
    refine ⟨fun u hu => ?_, h.2⟩
    simp only [St.put, setn_eq] at hu
    rcases List.mem_or_eq_of_mem_set hu with hu | rfl
    · exact h.1 u hu
    · exact hv

theorem ldV_lt' {P : Program} {hp : List Blk} {t : TypeId} {x : V} {p : Prop} {v : V} (hw : ∀ b ∈ hp, ∀ c ∈ b.cells, V.lt hp.length c ∧ c.one = true) (h : ldV P hp t x = some (p, v)) : v.lt hp.length := by
  unfold ldV at h
  split at h
  · split at h
    · rename_i i off _ _ _ b n hb ha hs
      cases h
      have := hw b (List.mem_of_getElem? hb)
      refine ⟨lts_seg ((lts_iff _ _).2 fun c hc => (this c hc).1) _ _, all_seg (List.all_eq_true.2 fun c hc => (this c hc).2) _ _⟩
    · rename_i i off _ _ _ b n hb ha hs
      cases h
      exact nth_lt ((lts_iff _ _).2 fun c hc => (hw b (List.mem_of_getElem? hb) c hc).1) _
    · cases h
  · cases h

theorem pureV_lt {P : Program} {s : St} (hw : AWf s) {o : Op} {p : Prop} {v : V} (h : pureV P s.slots o = some (p, v)) (hp : p) : v.lt s.heap.length := by
  unfold pureV at h
  split at h
  · unfold slcV at h
    split at h
    · exact sliceV_lt h (hw.ev _)
    · cases h
  · refine buildV_lt h hp fun x hx => ?_
    obtain ⟨q, _, rfl⟩ := List.mem_map.1 hx
    exact hw.ev q.2
  · cases h
    exact (lts_iff _ _).2 fun c hc => by obtain ⟨q, _, rfl⟩ := List.mem_map.1 hc; exact hw.ev q
  · exact pv_lt h hw.ev

theorem newV_wf {P : Program} {s : St} (hw : AWf s) {o : Op} {p : Prop} {r : AV} {b : Blk} (h : newV P s.slots o = some (p, r, b)) (hp : p) : ∀ c ∈ b.cells, V.lt s.heap.length c ∧ c.one = true := by
  unfold newV at h
  split at h
  · obtain ⟨z, hz, h⟩ := Option.map_eq_some_iff.1 h
    cases h
    obtain ⟨i, zv, _, _, _, _, hzm⟩ := zeroL_some hz
    exact fun c hc => ⟨(hzm c hc).1 _, (hzm c hc).2⟩
  · cases h
    exact cellsL_wf hp (hw.ev _)
  · obtain ⟨q, hq, h⟩ := Option.map_eq_some_iff.1 h
    cases h
    unfold bslV at hq
    split at hq
    · split at hq
      · rename_i hz
        obtain ⟨⟨q1, q2⟩, hq2, hq⟩ := Option.map_eq_some_iff.1 hq
        subst hq
        obtain ⟨i, zv, _, _, _, _, hzm⟩ := zeroL_some hz
        intro c hc
        rcases (fillV_mem _ _ _ q1 hq2 hp.2).2 c hc with h1 | ⟨x, hx, h1, h2⟩
        · have := zerosL_mem h1; exact ⟨(hzm c this).1 _, (hzm c this).2⟩
        · obtain ⟨q, _, rfl⟩ := List.mem_map.1 hx
          exact cellsL_wf h1 (hw.ev q.2) c h2
      · cases hq
    · cases hq
  · split at h
    · obtain ⟨q, hq, h⟩ := Option.map_eq_some_iff.1 h
      cases h
      unfold mkV at hq
      split at hq
      · split at hq
        · split at hq
          · rename_i hz
            cases hq
            obtain ⟨i, zv, _, _, _, _, hzm⟩ := zeroL_some hz
            intro c hc
            have := zerosL_mem hc; exact ⟨(hzm c this).1 _, (hzm c this).2⟩
          · cases hq
        · cases hq
      · cases hq
    · cases h
  · cases h

theorem AV.at_lt (r : AV) (n : Nat) : (r.at_ n).lt (n + 1) := by cases r <;> exact Nat.lt_succ_self n

theorem stB_some {P : Program} {hp : List Blk} {t : TypeId} {x y : V} {p : Prop} {i : Nat} {b : Blk} (h : stB P hp t x y = some (p, i, b)) :
    ∃ off b0 n, y = .p i off ∧ hp[i]? = some b0 ∧ szo P t = some n ∧ p = (b0.k.mut = true ∧ x.solid = true ∧ (cellsL x).length = n ∧ off + (cellsL x).length ≤ b0.cells.length) ∧ b = { b0 with cells := wr b0.cells off (cellsL x) } := by
  unfold stB at h
  split at h
  · split at h
    · cases h; exact ⟨_, _, _, rfl, by assumption, by assumption, rfl, rfl⟩
    · cases h
  · cases h

theorem TStep.wf {P : Program} {ops : Array Oper} {pre : List (List Nat)} {i : Nat} {log : List Tm} {s s' : St} {o : Oper} {rec : Tm} (h : TStep P ops pre i log s o rec s') (hw : AWf s) :
    AWf s' ∧ V.lt s'.heap.length rec.v ∧ s.heap.length ≤ s'.heap.length := by
  cases h with
  | skip => exact ⟨hw.put _ trivial, trivial, by unfold St.put; split <;> exact Nat.le_refl _⟩
  | pure hg hp hq hno =>
    have := pureV_lt hw hp hq
    exact ⟨hw.put _ this, by unfold St.put; split <;> exact this, by unfold St.put; split <;> exact Nat.le_refl _⟩
  | load hg hop hx hld hq hrd hno =>
    have := ldV_lt' hw.2 hld
    exact ⟨hw.put _ this, by unfold St.put; split <;> exact this, by unfold St.put; split <;> exact Nat.le_refl _⟩
  | slc hg hop hx hs hq hlt hrd hno =>
    unfold slV at hs
    obtain ⟨⟨r1, r2⟩, hq2, hr⟩ := Option.map_eq_some_iff.1 hs
    cases hr
    have := sliceV_lt hq2 (n := s.heap.length) hlt
    exact ⟨hw.put _ this, by unfold St.put; split <;> exact this, by unfold St.put; split <;> exact Nat.le_refl _⟩
  | cnv hg hop hk hb hq hrd hno =>
    have := cvB_lt (n := s.heap.length) hb
    exact ⟨hw.put _ this, by unfold St.put; split <;> exact this, by unfold St.put; split <;> exact Nat.le_refl _⟩
  | store hg hop hs hq hwr hno =>
    rename_i t x y idx b p
    obtain ⟨off, b0, n, hy, hb0, hn, rfl, rfl⟩ := stB_some hs
    have hw' : AWf ⟨s.slots, s.heap.set idx { b0 with cells := wr b0.cells off (cellsL (ev s.slots y)) }⟩ := by
      refine ⟨fun v hv => by simp only [List.length_set]; exact hw.1 v hv, fun b hb c hc => ?_⟩
      simp only [List.length_set]
      rcases List.mem_or_eq_of_mem_set hb with hb | rfl
      · exact hw.2 b hb c hc
      · rcases wr_mem hc with hc | hc
        · exact hw.2 b0 (List.mem_of_getElem? hb0) c hc
        · exact cellsL_wf hq.2.1 (hw.ev y) c hc
    exact ⟨hw'.put _ trivial, trivial, by unfold St.put; split <;> simp⟩
  | new hg hn hq hno =>
    rename_i p r b
    have hw' : AWf ⟨s.slots, s.heap ++ [b]⟩ := by
      refine ⟨fun v hv => ?_, fun x hx c hc => ?_⟩
      · simp only [List.length_append, List.length_singleton]; exact V.lt_mono (Nat.le_succ _) _ (hw.1 v hv)
      · simp only [List.length_append, List.length_singleton]
        rcases List.mem_append.1 hx with hx | hx
        · exact ⟨V.lt_mono (Nat.le_succ _) _ (hw.2 x hx c hc).1, (hw.2 x hx c hc).2⟩
        · have := newV_wf hw hn hq c (by rw [List.mem_singleton.1 hx] at hc; exact hc)
          exact ⟨V.lt_mono (Nat.le_succ _) _ this.1, this.2⟩
    have hl : V.lt (s.heap ++ [b]).length (r.at_ s.heap.length) := by simp only [List.length_append, List.length_singleton]; exact r.at_lt _
    exact ⟨hw'.put _ hl, by unfold St.put; split <;> exact hl, by unfold St.put; split <;> simp⟩
  | call hg hop hf hsol hret hcl hno hlt => exact ⟨hw.put _ hlt, by unfold St.put; split <;> exact hlt, by unfold St.put; split <;> exact Nat.le_refl _⟩
end Go.Sx
namespace Go.Sx
open Go.RowKit

theorem TStep.slots {P : Program} {ops : Array Oper} {pre : List (List Nat)} {i : Nat} {log : List Tm} {s s' : St} {o : Oper} {rec : Tm} (h : TStep P ops pre i log s o rec s') : s'.slots = (s.put o.dst rec.v).slots := by
  cases h <;> first | rfl | (unfold St.put; split <;> rfl)
theorem put_heap (s : St) (d : Option Tmp) (v : V) : (s.put d v).heap = s.heap := by unfold St.put; split <;> rfl
theorem TStep.heap {P : Program} {ops : Array Oper} {pre : List (List Nat)} {i : Nat} {log : List Tm} {s s' : St} {o : Oper} {rec : Tm} (h : TStep P ops pre i log s o rec s') :
    (rec.b = none ∧ s'.heap = s.heap ∧ ∀ j, rec.e ≠ .al j ∧ rec.e ≠ .wr j) ∨ ∃ idx b, rec.b = some (idx, b) ∧ ((rec.e = .wr idx ∧ idx < s.heap.length ∧ s'.heap = s.heap.set idx b) ∨ (rec.e = .al idx ∧ idx = s.heap.length ∧ s'.heap = s.heap ++ [b])) := by
  cases h with
  | store hg hop hs hq hwr hno =>
    obtain ⟨off, b0, n, hy, hb0, hn, rfl, rfl⟩ := stB_some hs
    exact .inr ⟨_, _, rfl, .inl ⟨rfl, (List.getElem?_eq_some_iff.1 hb0).1, put_heap _ _ _⟩⟩
  | new hg hn hq hno => exact .inr ⟨_, _, rfl, .inr ⟨rfl, rfl, put_heap _ _ _⟩⟩
  | _ => exact .inl ⟨rfl, put_heap _ _ _, fun j => ⟨fun e => (nomatch e), fun e => (nomatch e)⟩⟩

def vk (tl : List Tm) (k : Nat) : V := ((tl[k]?).map Tm.v).getD .any
def bk (tl : List Tm) (k : Nat) : Option (Nat × Blk) := (tl[k]?).bind Tm.b
def bAt (tl : List Tm) (idx k : Nat) : Option Blk := (bk tl k).bind fun q => if q.1 = idx then some q.2 else none
def vAt (ops : Array Oper) (tl : List Tm) (t k : Nat) : Option V := if dsto ops k = some t then some (vk tl k) else none
def on {α : Type} (S : Nat → Bool) (f : Nat → Option α) (k : Nat) : Option α := if S k = true then f k else none

section
variable {P : Program} {ops : Array Oper} {pre : List (List Nat)} {N : Nat} {tl : List Tm} {st : Nat → St}

theorem Line.at_ (h : Line P ops pre N tl st) {i : Nat} (hi : i < N) : ∃ o rec, ops[i]? = some o ∧ tl[i]? = some rec ∧ vk tl i = rec.v ∧ bk tl i = rec.b ∧ dsto ops i = o.dst ∧ TStep P ops pre i (tl.take i) (st i) o rec (st (i + 1)) := by
  obtain ⟨o, rec, h1, h2, h3⟩ := h.step i hi
  exact ⟨o, rec, h1, h2, by simp [vk, h2], by simp [bk, h2], by simp [dsto, h1], h3⟩

theorem setn_length (l : List V) (i : Nat) (v : V) : (setn l i v).length = l.length := by rw [setn_eq, List.length_set]
theorem nth_setn (l : List V) (i t : Nat) (v : V) (ht : t < l.length) : nth (setn l i v) t = if i = t then v else nth l t := by
  rw [setn_eq, nth_eq, nth_eq, List.getElem?_set]
  split
  · rename_i h; subst h; simp [ht]
  · rfl

theorem Line.slotsLen (h : Line P ops pre N tl st) : ∀ i, i ≤ N → (st i).slots.length = (st 0).slots.length
  | 0, _ => rfl
  | i + 1, hi => by
    obtain ⟨o, rec, _, _, _, _, _, hst⟩ := h.at_ (i := i) hi
    rw [hst.slots, ← h.slotsLen i (by omega)]
    unfold St.put
    split
    · exact setn_length _ _ _
    · rfl

theorem Line.slotsAt (h : Line P ops pre N tl st) (t : Nat) (ht : t < (st 0).slots.length) : ∀ i, i ≤ N → nth (st i).slots t = last i (vAt ops tl t) (nth (st 0).slots t)
  | 0, _ => rfl
  | i + 1, hi => by
    obtain ⟨o, rec, _, _, hv, _, hd, hst⟩ := h.at_ (i := i) hi
    have ih := h.slotsAt t ht i (by omega)
    rw [hst.slots]
    simp only [last, vAt, hd, hv]
    unfold St.put
    split
    · rename_i d hdo
      rw [nth_setn _ _ _ _ (by rw [h.slotsLen i (by omega)]; exact ht), hdo]
      by_cases e : d = t
      · subst e; simp
      · simp only [if_neg e]
        rw [if_neg (by simpa using e), ih]
    · rename_i hdo
      rw [hdo, ih]
      simp

theorem Line.heapLen (h : Line P ops pre N tl st) : ∀ i j, i ≤ j → j ≤ N → (st i).heap.length ≤ (st j).heap.length
  | i, 0, hij, _ => by have : i = 0 := by omega
                       subst this; exact Nat.le_refl _
  | i, j + 1, hij, hj => by
    rcases Nat.lt_or_ge i (j + 1) with hlt | hge
    · have ih := h.heapLen i j (by omega) (by omega)
      obtain ⟨o, rec, _, _, _, _, _, hst⟩ := h.at_ (i := j) hj
      rcases hst.heap with ⟨_, e, _⟩ | ⟨idx, b, _, ⟨_, _, e⟩ | ⟨_, _, e⟩⟩ <;> rw [e] <;> simp <;> omega
    · have : i = j + 1 := by omega
      subst this; exact Nat.le_refl _

theorem Line.bkLt (h : Line P ops pre N tl st) {k : Nat} (hk : k < N) {idx : Nat} {b : Blk} (hb : bk tl k = some (idx, b)) : idx < (st (k + 1)).heap.length := by
  obtain ⟨o, rec, _, _, _, hbk, _, hst⟩ := h.at_ hk
  rw [hbk] at hb
  rcases hst.heap with ⟨e, _⟩ | ⟨idx', b', e, ⟨_, e1, e2⟩ | ⟨_, e1, e2⟩⟩
  · rw [e] at hb; cases hb
  · rw [e] at hb; cases hb; rw [e2]; simpa using e1
  · rw [e] at hb; cases hb; rw [e2, e1]; simp

theorem Line.heapAt (h : Line P ops pre N tl st) (idx : Nat) : ∀ i, i ≤ N → (st i).heap.getD idx deadB = last i (bAt tl idx) ((st 0).heap.getD idx deadB)
  | 0, _ => rfl
  | i + 1, hi => by
    obtain ⟨o, rec, _, _, _, hb, _, hst⟩ := h.at_ (i := i) hi
    have ih := h.heapAt idx i (by omega)
    simp only [last]
    have hbA : bAt tl idx i = rec.b.bind fun q => if q.1 = idx then some q.2 else none := by unfold bAt; rw [hb]
    rcases hst.heap with ⟨e, e2, _⟩ | ⟨idx', b', e, ⟨_, e1, e2⟩ | ⟨_, e1, e2⟩⟩
    · rw [hbA, e, e2]; simpa using ih
    · rw [hbA, e, e2]
      by_cases he : idx' = idx
      · subst he; simp [List.getD, e1]
      · simp only [Option.bind_some, if_neg he]
        rw [← ih]
        simp [List.getD, List.getElem?_set, he]
    · rw [hbA, e, e2]
      by_cases he : idx' = idx
      · subst he; rw [e1]; simp [List.getD]
      · simp only [Option.bind_some, if_neg he]
        rw [← ih]
        rcases Nat.lt_trichotomy idx (st i).heap.length with hl | hl | hl
        · simp [List.getD, List.getElem?_append_left hl]
        · exact absurd (e1.trans hl.symm) he
        · simp only [List.getD]
          rw [List.getElem?_eq_none (by simp; omega), List.getElem?_eq_none (by omega)]

theorem Line.wf (h : Line P ops pre N tl st) (hw : AWf (st 0)) : ∀ i, i ≤ N → AWf (st i)
  | 0, _ => hw
  | i + 1, hi => by
    obtain ⟨o, rec, _, _, _, _, _, hst⟩ := h.at_ (i := i) hi
    exact (hst.wf (h.wf hw i (by omega))).1

theorem Line.vLt (h : Line P ops pre N tl st) (hw : AWf (st 0)) {k : Nat} (hk : k < N) : V.lt (st (k + 1)).heap.length (vk tl k) := by
  obtain ⟨o, rec, _, _, hv, _, _, hst⟩ := h.at_ hk
  rw [hv]
  exact (hst.wf (h.wf hw k (by omega))).2.1

def mkS (ops : Array Oper) (N : Nat) (tl : List Tm) (st : Nat → St) (S : Nat → Bool) : St :=
  ⟨(List.range (st 0).slots.length).map fun t => last N (on S (vAt ops tl t)) (nth (st 0).slots t), (List.range (st N).heap.length).map fun idx => last N (on S (bAt tl idx)) ((st 0).heap.getD idx deadB)⟩

theorem mkS_nth (S : Nat → Bool) (t : Nat) (ht : t < (st 0).slots.length) : nth (mkS ops N tl st S).slots t = last N (on S (vAt ops tl t)) (nth (st 0).slots t) := by
  rw [nth_eq]; simp [mkS, ht]
theorem mkS_nth_ge (S : Nat → Bool) (t : Nat) (ht : (st 0).slots.length ≤ t) : nth (mkS ops N tl st S).slots t = .any := by
  rw [nth_eq, List.getElem?_eq_none (by simpa [mkS] using ht)]; rfl
theorem mkS_heap (S : Nat → Bool) (idx : Nat) (h : idx < (st N).heap.length) : (mkS ops N tl st S).heap[idx]? = some (last N (on S (bAt tl idx)) ((st 0).heap.getD idx deadB)) := by
  simp [mkS, h]
theorem mkS_len (S : Nat → Bool) : (mkS ops N tl st S).heap.length = (st N).heap.length := by simp [mkS]

theorem on_none {α : Type} {S : Nat → Bool} {f : Nat → Option α} {k : Nat} (h : S k = false ∨ f k = none) : on S f k = none := by
  unfold on
  rcases h with h | h
  · rw [h]; rfl
  · split
    · exact h
    · rfl
theorem on_some {α : Type} {S : Nat → Bool} {f : Nat → Option α} {k : Nat} (h : S k = true) : on S f k = f k := by unfold on; rw [if_pos h]

theorem mkS_full (h : Line P ops pre N tl st) {S : Nat → Bool} (hS : ∀ k, k < N → S k = true) : mkS ops N tl st S = st N := by
  have e1 : (mkS ops N tl st S).slots = (st N).slots := by
    apply List.ext_getElem?
    intro t
    rcases Nat.lt_or_ge t (st 0).slots.length with ht | ht
    · have h1 := h.slotsAt t ht N (Nat.le_refl _)
      rw [nth_eq] at h1
      have hlt : t < (st N).slots.length := by rw [h.slotsLen N (Nat.le_refl _)]; exact ht
      rw [List.getElem?_eq_getElem hlt] at h1 ⊢
      simp only [mkS, List.getElem?_map, List.getElem?_range ht, Option.map_some]
      rw [last_congr N fun k hk => on_some (f := vAt ops tl t) (hS k hk), ← h1]
      rfl
    · rw [List.getElem?_eq_none (by simpa [mkS] using ht), List.getElem?_eq_none (by rw [h.slotsLen N (Nat.le_refl _)]; exact ht)]
  have e2 : (mkS ops N tl st S).heap = (st N).heap := by
    apply List.ext_getElem?
    intro idx
    rcases Nat.lt_or_ge idx (st N).heap.length with hl | hl
    · have h1 := h.heapAt idx N (Nat.le_refl _)
      rw [mkS_heap S idx hl, last_congr N fun k hk => on_some (f := bAt tl idx) (hS k hk), ← h1]
      simp [List.getD, hl]
    · rw [List.getElem?_eq_none (by rw [mkS_len]; exact hl), List.getElem?_eq_none hl]
  cases hm : mkS ops N tl st S
  cases hn : st N
  rw [hm, hn] at e1 e2
  simp only at e1 e2
  rw [e1, e2]
end
end Go.Sx
namespace Go.Sx
open Go.RowKit

def orS (S : Nat → Bool) (i : Nat) : Nat → Bool := fun k => if k = i then true else S k

section
variable {P : Program} {ops : Array Oper} {pre : List (List Nat)} {N : Nat} {tl : List Tm} {st : Nat → St}

theorem chkSlots_at (h : chkSlots ops pre N = true) {i k : Nat} (hi : i < N) (hk : k < N) (hne : i ≠ k) {d : Tmp} (hd : dsto ops k = some d) (hl : d ∈ looks ops i ∨ dsto ops i = some d) :
    (k < i ∧ k ∈ pr pre i) ∨ (i < k ∧ i ∈ pr pre k) := by
  have h1 := List.all_eq_true.1 (List.all_eq_true.1 h i (List.mem_range.2 hi)) k (List.mem_range.2 hk)
  rw [hd] at h1
  have hne' : (i == k) = false := by simpa using hne
  rw [hne', Bool.false_or] at h1
  simp only [Bool.or_eq_true, Bool.and_eq_true, decide_eq_true_eq, Bool.not_eq_true', Bool.or_eq_false_iff, List.contains_iff_mem] at h1
  rcases h1 with (⟨h1, h2⟩ | h1) | h1
  · rcases hl with hl | hl
    · have : (looks ops i).contains d = true := List.contains_iff_mem.2 hl
      rw [this] at h1; cases h1
    · rw [hl] at h2; simp at h2
  · exact .inl h1
  · exact .inr h1

structure Up (pre : List (List Nat)) (N : Nat) (S : Nat → Bool) (i : Nat) : Prop where
  lt : i < N
  no : S i = false
  down : ∀ k, k < N → S k = true → ∀ j ∈ pr pre k, S j = true
  ready : ∀ j ∈ pr pre i, S j = true

theorem Up.not {S : Nat → Bool} {i : Nat} (h : Up pre N S i) {k : Nat} (hk : k < N) (hi : i ∈ pr pre k) : S k = false := by
  cases hs : S k with
  | false => rfl
  | true => have := h.down k hk hs i hi; rw [h.no] at this; cases this

theorem slot_same (hL : Line P ops pre N tl st) (hc : chkSlots ops pre N = true) {S : Nat → Bool} {i : Nat} (hu : Up pre N S i) (t : Nat) (ht : t ∈ looks ops i) :
    nth (mkS ops N tl st S).slots t = nth (st i).slots t := by
  rcases Nat.lt_or_ge t (st 0).slots.length with hlt | hge
  · rw [mkS_nth S t hlt, hL.slotsAt t hlt i (Nat.le_of_lt hu.lt)]
    rw [last_below i N (Nat.le_of_lt hu.lt) fun k h1 h2 => ?_]
    · refine last_congr i fun k hk => ?_
      by_cases hd : dsto ops k = some t
      · refine on_some ?_
        rcases chkSlots_at hc hu.lt (Nat.lt_trans hk hu.lt) (by omega) hd (.inl ht) with ⟨_, h⟩ | ⟨h, _⟩
        · exact hu.ready k h
        · omega
      · have : vAt ops tl t k = none := by unfold vAt; rw [if_neg hd]
        rw [on_none (.inr this), this]
    · by_cases hki : k = i
      · subst hki; exact on_none (.inl hu.no)
      · by_cases hd : dsto ops k = some t
        · refine on_none (.inl ?_)
          rcases chkSlots_at hc hu.lt h2 (by omega) hd (.inl ht) with ⟨h, _⟩ | ⟨_, h⟩
          · omega
          · exact hu.not h2 h
        · refine on_none (.inr ?_); unfold vAt; rw [if_neg hd]
  · rw [mkS_nth_ge S t hge, nth_eq, List.getElem?_eq_none (by rw [hL.slotsLen i (Nat.le_of_lt hu.lt)]; exact hge)]; rfl

theorem blk_same (hL : Line P ops pre N tl st) {S : Nat → Bool} {i : Nat} (hu : Up pre N S i) (idx : Nat) (hidx : idx < (st i).heap.length)
    (h1 : ∀ k b, k < i → bk tl k = some (idx, b) → k ∈ pr pre i) (h2 : ∀ k b, i < k → k < N → bk tl k = some (idx, b) → i ∈ pr pre k) :
    (mkS ops N tl st S).heap[idx]? = (st i).heap[idx]? := by
  have hlt : idx < (st N).heap.length := Nat.lt_of_lt_of_le hidx (hL.heapLen i N (Nat.le_of_lt hu.lt) (Nat.le_refl _))
  have none_of : ∀ k, (∀ b, bk tl k ≠ some (idx, b)) → bAt tl idx k = none := fun k hno => by
    unfold bAt
    cases hb : bk tl k with
    | none => rfl
    | some q =>
      obtain ⟨q1, q2⟩ := q
      by_cases e : q1 = idx
      · subst e; exact absurd hb (hno q2)
      · simp [e]
  rw [mkS_heap S idx hlt]
  have h := hL.heapAt idx i (Nat.le_of_lt hu.lt)
  rw [List.getElem?_eq_getElem hidx]
  have hg : (st i).heap.getD idx deadB = (st i).heap[idx] := by simp [List.getD, hidx]
  rw [← hg, h]
  congr 1
  rw [last_below i N (Nat.le_of_lt hu.lt) fun k g1 g2 => ?_]
  · refine last_congr i fun k hk => ?_
    by_cases hb : ∃ b, bk tl k = some (idx, b)
    · obtain ⟨b, hb⟩ := hb
      exact on_some (hu.ready k (h1 k b hk hb))
    · have := none_of k fun b hb' => hb ⟨b, hb'⟩
      rw [on_none (.inr this), this]
  · by_cases hki : k = i
    · subst hki; exact on_none (.inl hu.no)
    · by_cases hb : ∃ b, bk tl k = some (idx, b)
      · obtain ⟨b, hb⟩ := hb
        exact on_none (.inl (hu.not g2 (h2 k b (by omega) g2 hb)))
      · exact on_none (.inr (none_of k fun b hb' => hb ⟨b, hb'⟩))

theorem put_same (hL : Line P ops pre N tl st) (hc : chkSlots ops pre N = true) {S : Nat → Bool} {i : Nat} (hu : Up pre N S i) :
    (St.put (mkS ops N tl st S) (dsto ops i) (vk tl i)).slots = (mkS ops N tl st (orS S i)).slots := by
  apply List.ext_getElem?
  intro t
  have hlen : (St.put (mkS ops N tl st S) (dsto ops i) (vk tl i)).slots.length = (st 0).slots.length := by
    unfold St.put; split
    · simp [setn_length, mkS]
    · simp [mkS]
  rcases Nat.lt_or_ge t (st 0).slots.length with ht | ht
  · have g : ∀ l : List V, t < l.length → l[t]? = some (nth l t) := fun l hl => by rw [nth_eq, List.getElem?_eq_getElem hl]; rfl
    rw [g _ (by rw [hlen]; exact ht), g _ (by simpa [mkS] using ht), mkS_nth _ t ht]
    congr 1
    by_cases hd : dsto ops i = some t
    · rw [hd]
      simp only [St.put]
      rw [nth_setn _ _ _ _ (by simpa [mkS] using ht), if_pos rfl]
      refine (last_at i N hu.lt ?_ fun k h1 h2 => ?_).symm
      · rw [on_some (by simp [orS])]; unfold vAt; rw [if_pos hd]
      · by_cases hk : dsto ops k = some t
        · refine on_none (.inl ?_)
          simp only [orS, if_neg (show ¬ k = i by omega)]
          rcases chkSlots_at hc hu.lt h2 (by omega) hk (.inr hd) with ⟨h, _⟩ | ⟨_, h⟩
          · omega
          · exact hu.not h2 h
        · refine on_none (.inr ?_); unfold vAt; rw [if_neg hk]
    · have e : nth (St.put (mkS ops N tl st S) (dsto ops i) (vk tl i)).slots t = nth (mkS ops N tl st S).slots t := by
        unfold St.put
        split
        · rename_i d hdo
          rw [nth_setn _ _ _ _ (by simpa [mkS] using ht), if_neg (fun e => hd (by rw [hdo, e]))]
        · rfl
      rw [e, mkS_nth S t ht]
      refine last_congr N fun k hk => ?_
      by_cases hki : k = i
      · subst hki
        have : vAt ops tl t k = none := by unfold vAt; rw [if_neg hd]
        rw [on_none (.inr this), on_none (.inr this)]
      · unfold on; simp only [orS, if_neg hki]
  · rw [List.getElem?_eq_none (by rw [hlen]; exact ht), List.getElem?_eq_none (by simpa [mkS] using ht)]

theorem heap_same (hL : Line P ops pre N tl st) {S : Nat → Bool} {i : Nat} (hu : Up pre N S i) (hb : bk tl i = none) : (mkS ops N tl st (orS S i)).heap = (mkS ops N tl st S).heap := by
  simp only [mkS]
  refine List.map_congr_left fun idx _ => last_congr N fun k hk => ?_
  by_cases hki : k = i
  · subst hki
    have : bAt tl idx k = none := by unfold bAt; rw [hb]; rfl
    rw [on_none (.inr this), on_none (.inr this)]
  · unfold on; simp only [orS, if_neg hki]

theorem heap_set (hL : Line P ops pre N tl st) {S : Nat → Bool} {i idx : Nat} {b : Blk} (hu : Up pre N S i) (hb : bk tl i = some (idx, b)) (h2 : ∀ k b', i < k → k < N → bk tl k = some (idx, b') → i ∈ pr pre k) :
    (mkS ops N tl st (orS S i)).heap = (mkS ops N tl st S).heap.set idx b := by
  apply List.ext_getElem?
  intro j
  rcases Nat.lt_or_ge j (st N).heap.length with hj | hj
  · rw [mkS_heap _ j hj, List.getElem?_set]
    by_cases e : idx = j
    · subst e
      rw [if_pos rfl, if_pos (by rw [mkS_len]; exact hj)]
      congr 1
      refine last_at i N hu.lt ?_ fun k h1 h3 => ?_
      · rw [on_some (by simp [orS])]; unfold bAt; rw [hb]; simp
      · cases hk : bk tl k with
        | none => refine on_none (.inr ?_); unfold bAt; rw [hk]; rfl
        | some q =>
          obtain ⟨q1, q2⟩ := q
          by_cases e : q1 = idx
          · subst e
            refine on_none (.inl ?_)
            simp only [orS, if_neg (show ¬ k = i by omega)]
            exact hu.not h3 (h2 k q2 h1 h3 hk)
          · refine on_none (.inr ?_); unfold bAt; rw [hk]; simp [e]
    · rw [if_neg e, mkS_heap S j hj]
      congr 1
      refine last_congr N fun k hk => ?_
      by_cases hki : k = i
      · subst hki
        have : bAt tl j k = none := by unfold bAt; rw [hb]; simp [e]
        rw [on_none (.inr this), on_none (.inr this)]
      · unfold on; simp only [orS, if_neg hki]
  · rw [List.getElem?_eq_none (by rw [mkS_len]; exact hj), List.getElem?_eq_none (by rw [List.length_set, mkS_len]; exact hj)]
end
end Go.Sx
namespace Go.Sx
open Go.RowKit

section
variable {P : Program} {ops : Array Oper} {pre : List (List Nat)} {N : Nat} {tl : List Tm} {st : Nat → St}

theorem take_get (tl : List Tm) {k i : Nat} (h : k < i) : (tl.take i)[k]? = tl[k]? := by rw [List.getElem?_take, if_pos h]

theorem Line.mark (hL : Line P ops pre N tl st) {k : Nat} (hk : k < N) {idx : Nat} {b : Blk} (hb : bk tl k = some (idx, b)) : (tl[k]?).map Tm.e = some (.wr idx) ∨ (tl[k]?).map Tm.e = some (.al idx) := by
  obtain ⟨o, rec, _, h2, _, hbk, _, hst⟩ := hL.at_ hk
  rw [hbk] at hb
  rcases hst.heap with ⟨e, _⟩ | ⟨idx', b', e, ⟨e1, _, _⟩ | ⟨e1, _, _⟩⟩
  · rw [e] at hb; cases hb
  · rw [e] at hb; cases hb; left; rw [h2]; simp [e1]
  · rw [e] at hb; cases hb; right; rw [h2]; simp [e1]

theorem Line.alIdx (hL : Line P ops pre N tl st) {k : Nat} (hk : k < N) {idx : Nat} (he : (tl[k]?).map Tm.e = some (.al idx)) : idx = (st k).heap.length := by
  obtain ⟨o, rec, _, h2, _, hbk, _, hst⟩ := hL.at_ hk
  rw [h2] at he
  simp only [Option.map_some, Option.some.injEq] at he
  rcases hst.heap with ⟨_, _, e⟩ | ⟨idx', b', e, ⟨e1, _, _⟩ | ⟨e1, e2, _⟩⟩
  · exact absurd he (e idx).1
  · rw [e1] at he; cases he
  · rw [e1] at he; cases he; exact e2

theorem Line.later (hL : Line P ops pre N tl st) {i k : Nat} (hik : i < k) (hk : k < N) {idx : Nat} {b : Blk} (hb : bk tl k = some (idx, b)) :
    ((tl[i]?).map Tm.e = some (.rd idx) ∨ (tl[i]?).map Tm.e = some (.wr idx) ∨ (tl[i]?).map Tm.e = some (.al idx)) → idx < (st (i + 1)).heap.length → i ∈ pr pre k := by
  intro hi hlt
  obtain ⟨o, rec, _, h2, _, hbk, _, hst⟩ := hL.at_ hk
  rw [hbk] at hb
  have hmono := hL.heapLen (i + 1) k (by omega) (by omega)
  generalize st (k + 1) = s1 at hst
  cases hst with
  | store hg hop hs hq hwr hno =>
    cases hb
    have := (okWr_at hwr i hik).1 idx (by rw [take_get tl hik]; rcases hi with hi | hi | hi <;> simp [hi])
    exact this.resolve_right (fun h => h rfl)
  | new hg hn hq hno => cases hb; omega
  | skip _ => cases hb
  | pure _ _ _ _ => cases hb
  | load _ _ _ _ _ _ _ => cases hb
  | slc _ _ _ _ _ _ _ _ => cases hb
  | cnv _ _ _ _ _ _ _ => cases hb
  | call _ _ _ _ _ _ _ _ => cases hb
theorem Line.laterCl (hL : Line P ops pre N tl st) {i k : Nat} (hik : i < k) (hk : k < N) {idx len : Nat} {hid : List Nat} {b : Blk} (hb : bk tl k = some (idx, b)) (hi : (tl[i]?).map Tm.e = some (.cl len hid)) (hlt : idx < len) (hno' : idx ∉ hid) (hle : len ≤ (st (i + 1)).heap.length) : i ∈ pr pre k := by
  obtain ⟨o, rec, _, h2, _, hbk, _, hst⟩ := hL.at_ hk
  rw [hbk] at hb
  have hmono := hL.heapLen (i + 1) k (by omega) (by omega)
  generalize st (k + 1) = s1 at hst
  cases hst with
  | store hg hop hs hq hwr hno =>
    cases hb
    rcases (okWr_at hwr i hik).2 len hid (by rw [take_get tl hik]; exact hi) with h | h | h
    · exact h
    · exact absurd h hno'
    · omega
  | new hg hn hq hno => cases hb; omega
  | skip _ => cases hb
  | pure _ _ _ _ => cases hb
  | load _ _ _ _ _ _ _ => cases hb
  | slc _ _ _ _ _ _ _ _ => cases hb
  | cnv _ _ _ _ _ _ _ => cases hb
  | call _ _ _ _ _ _ _ _ => cases hb

mutual
theorem lt_noref {n i : Nat} (h : n ≤ i) : ∀ x : V, x.lt n → V.noref i x = true
  | .any, _ => rfl
  | .v _, _ => rfl
  | .p j _, hl => by simp only [V.lt] at hl; simp only [V.noref, bne_iff_ne]; omega
  | .s j _ _ _, hl => by simp only [V.lt] at hl; simp only [V.noref, bne_iff_ne]; omega
  | .e j _ _ _ _, hl => by simp only [V.lt] at hl; simp only [V.noref, bne_iff_ne]; omega
  | .a cs, hl => by simp only [V.lt] at hl; simp only [V.noref]; exact lts_norefs h cs hl.1
  | .t cs, hl => by simp only [V.lt] at hl; simp only [V.noref]; exact lts_norefs h cs hl
  | .f _ cs, hl => by simp only [V.lt] at hl; simp only [V.noref]; exact lts_norefs h cs hl
theorem lts_norefs {n i : Nat} (h : n ≤ i) : ∀ l : List V, lts n l → norefs i l = true
  | [], _ => rfl
  | x :: xs, hl => by simp only [lts] at hl; simp only [norefs, lt_noref h x hl.1, lts_norefs h xs hl.2, Bool.and_self]
end

theorem last_cases {α : Type} {W : Nat → Option α} {x : α} : ∀ n, last n W x = x ∨ ∃ k y, k < n ∧ W k = some y ∧ last n W x = y
  | 0 => .inl rfl
  | n + 1 => by
    simp only [last]
    cases h : W n with
    | some y => exact .inr ⟨n, y, Nat.lt_succ_self n, h, rfl⟩
    | none =>
      rcases last_cases (W := W) (x := x) n with h1 | ⟨k, y, h1, h2, h3⟩
      · exact .inl h1
      · exact .inr ⟨k, y, Nat.lt_succ_of_lt h1, h2, h3⟩

theorem no_lead (hL : Line P ops pre N tl st) (hw : AWf (st 0)) {S : Nat → Bool} {i idx : Nat} (hu : Up pre N S i) (he : (tl[i]?).map Tm.e = some (.al idx)) :
    (∀ v ∈ (mkS ops N tl st S).slots, V.noref idx v = true) ∧ ∀ b ∈ (mkS ops N tl st S).heap, norefs idx b.cells = true := by
  have hidx := hL.alIdx hu.lt he
  have h0 : (st 0).heap.length ≤ idx := by rw [hidx]; exact hL.heapLen 0 i (Nat.zero_le _) (Nat.le_of_lt hu.lt)
  have key : ∀ k, k < N → S k = true → V.noref idx (vk tl k) = true ∧ ∀ j b, bk tl k = some (j, b) → norefs idx b.cells = true := by
    intro k hk hS
    have hne : k ≠ i := fun e => by rw [e, hu.no] at hS; cases hS
    obtain ⟨o, rec, _, h2, hv, hbk, _, hst⟩ := hL.at_ hk
    rcases Nat.lt_or_ge k i with hki | hki
    · have hwf := hL.wf hw (k + 1) hk
      have hle : (st (k + 1)).heap.length ≤ idx := by rw [hidx]; exact hL.heapLen (k + 1) i hki (Nat.le_of_lt hu.lt)
      refine ⟨lt_noref hle _ (hL.vLt hw hk), fun j b hb => ?_⟩
      rw [hbk] at hb
      have hmem : b ∈ (st (k + 1)).heap := by
        rcases hst.heap with ⟨e, _⟩ | ⟨idx', b', e, ⟨_, e1, e2⟩ | ⟨_, e1, e2⟩⟩
        · rw [e] at hb; cases hb
        · rw [e] at hb; cases hb; rw [e2]; exact List.mem_of_getElem? (i := j) (by simp [e1])
        · rw [e] at hb; cases hb; rw [e2]; simp
      rw [norefs_all]
      exact List.all_eq_true.2 fun c hc => lt_noref hle c (hwf.2 b hmem c hc).1
    · have hik : i < k := by omega
      have hno : ∀ vs, okNo (pr pre k) vs (tl.take k) k → norefs idx vs = true := fun vs h => by
        rcases okNo_at h i hik idx (by rw [take_get tl hik]; exact he) with h1 | h1
        · have := hu.not hk h1; rw [hS] at this; cases this
        · exact h1
      rw [hv, hbk]
      generalize st (k + 1) = s1 at hst
      cases hst with
      | skip _ => exact ⟨rfl, fun j b hb => by cases hb⟩
      | pure _ _ _ h => exact ⟨by have := hno _ h; simpa [norefs] using this, fun j b hb => by cases hb⟩
      | load _ _ _ _ _ _ h => exact ⟨by have := hno _ h; simpa [norefs] using this, fun j b hb => by cases hb⟩
      | slc _ _ _ _ _ _ _ h => exact ⟨by have := hno _ h; simpa [norefs] using this, fun j b hb => by cases hb⟩
      | cnv _ _ _ _ _ _ h => exact ⟨by have := hno _ h; simpa [norefs] using this, fun j b hb => by cases hb⟩
      | store _ _ _ _ _ h => exact ⟨rfl, fun j b hb => by cases hb; exact hno _ h⟩
      | new _ _ _ h =>
        refine ⟨?_, fun j b hb => by cases hb; exact hno _ h⟩
        have : idx < (st k).heap.length := by
          have h1 := hL.heapLen (i + 1) k hik (Nat.le_of_lt hk)
          obtain ⟨o', rec', _, h2', _, _, _, hst'⟩ := hL.at_ hu.lt
          rw [h2'] at he
          simp only [Option.map_some, Option.some.injEq] at he
          rcases hst'.heap with ⟨_, _, e⟩ | ⟨idx', b', e, ⟨e1, _, _⟩ | ⟨e1, e2, e3⟩⟩
          · exact absurd he (e idx).1
          · rw [e1] at he; cases he
          · rw [e1] at he; cases he; rw [e3] at h1; simp at h1; omega
        have key2 : ∀ r : AV, V.noref idx (r.at_ (st k).heap.length) = true := fun r => by cases r <;> simp [AV.at_, V.noref] <;> omega
        exact key2 _
      | call _ _ _ _ _ _ h _ => exact ⟨by have := hno _ h; simpa [norefs] using this, fun j b hb => by cases hb⟩
  constructor
  · intro v hv
    simp only [mkS, List.mem_map, List.mem_range] at hv
    obtain ⟨t, ht, rfl⟩ := hv
    rcases last_cases (W := on S (vAt ops tl t)) (x := nth (st 0).slots t) N with h | ⟨k, y, hk, hW, h⟩
    · rw [h]; exact lt_noref h0 _ (nth_lt ((lts_iff _ _).2 hw.1) t)
    · rw [h]
      unfold on at hW
      split at hW
      · rename_i hS
        unfold vAt at hW
        split at hW
        · cases hW; exact (key k hk hS).1
        · cases hW
      · cases hW
  · intro b hb
    simp only [mkS, List.mem_map, List.mem_range] at hb
    obtain ⟨j, hj, rfl⟩ := hb
    rcases last_cases (W := on S (bAt tl j)) (x := (st 0).heap.getD j deadB) N with h | ⟨k, y, hk, hW, h⟩
    · rw [h, norefs_all]
      refine List.all_eq_true.2 fun c hc => ?_
      rcases Nat.lt_or_ge j (st 0).heap.length with hl | hl
      · simp only [List.getD, List.getElem?_eq_getElem hl, Option.getD_some] at hc
        exact lt_noref h0 c (hw.2 _ (List.getElem_mem hl) c hc).1
      · simp [List.getD, List.getElem?_eq_none hl, deadB] at hc
    · rw [h]
      unfold on at hW
      split at hW
      · rename_i hS
        unfold bAt at hW
        obtain ⟨q, hq, hW⟩ := Option.bind_eq_some_iff.1 hW
        split at hW
        · cases hW; exact (key k hk hS).2 q.1 q.2 hq
        · cases hW
      · cases hW

theorem Weak.place {n0 : Nat} {sl : List V} {H : List Blk} {idx : Nat} {b : Blk} {r : AV} {d : Option Tmp} (hd : H[idx]? = some deadB) (h0 : n0 ≤ idx) (hsl : ∀ v ∈ sl, V.noref idx v = true) (hH : ∀ x ∈ H, norefs idx x.cells = true)
    (hb : norefs idx b.cells = true) (hlt : ∀ c ∈ b.cells, V.lt H.length c) (hw : AWf ⟨sl, H⟩) : Weak n0 (St.put ⟨sl, H ++ [b]⟩ d (r.at_ H.length)) (St.put ⟨sl, H.set idx b⟩ d (r.at_ idx)) := by
  intro E σ a w hE h
  have hidx : idx < H.length := (List.getElem?_eq_some_iff.1 hd).1
  let σ' : Nat → Loc := upσ σ idx (σ H.length)
  have s1 : ∀ j, j ≠ idx → σ' j = σ j := fun j hj => by simp [σ', upσ, hj]
  have s2 : σ' idx = σ H.length := by simp [σ', upσ]
  have hv : conc σ' (r.at_ idx) = conc σ (r.at_ H.length) := by cases r <;> simp [AV.at_, conc, s2]
  have hheap := h.heap
  rw [put_heap] at hheap
  have get : ∀ (j : Nat) (x : Blk), j ≠ idx → (H.set idx b)[j]? = some x → (H ++ [b])[j]? = some x ∧ H[j]? = some x := fun j x hj hx => by
    rw [List.getElem?_set, if_neg (Ne.symm hj)] at hx
    rw [List.getElem?_append_left (List.getElem?_eq_some_iff.1 hx).1]; exact ⟨hx, hx⟩
  have getb : (H ++ [b])[H.length]? = some b := by simp
  have isb : ∀ (x : Blk), (H.set idx b)[idx]? = some x → x = b := fun x hx => by
    rw [List.getElem?_set, if_pos rfl, if_pos hidx] at hx; cases hx; rfl
  have hl2 : (H.set idx b).length = H.length := List.length_set
  have wfOld : ∀ (j : Nat) (x : Blk), j ≠ idx → (H.set idx b)[j]? = some x → ∀ c ∈ x.cells, V.noref idx c = true := fun j x hj hx c hc => by
    have := hH x (List.mem_of_getElem? (get j x hj hx).2)
    rw [norefs_all] at this; exact List.all_eq_true.1 this c hc
  have hrel : HRel σ' (H.set idx b) w := by
    refine ⟨fun j x hx => ?_, fun j1 j2 b1 b2 hne g1 g2 l1 m2 => ?_, fun j x hx c hc => ?_⟩
    · by_cases hj : j = idx
      · subst hj
        have := isb x hx
        subst this
        have hh := hheap.holds _ x getb
        unfold Holds at hh ⊢
        rw [s2, concs_noref s1 _ hb]
        exact hh
      · obtain ⟨g1, g2⟩ := get j x hj hx
        exact (hheap.holds j x g1).congr (s1 j hj) (concs_noref s1 _ (hH x (List.mem_of_getElem? g2))) (Nat.le_refl _) fun _ => rfl
    · by_cases e1 : j1 = idx <;> by_cases e2 : j2 = idx
      · exact absurd (e1.trans e2.symm) hne
      · subst e1
        have := isb b1 g1; subst this
        rw [s2, s1 j2 e2]
        exact hheap.sep H.length j2 b1 b2 (by have := (List.getElem?_eq_some_iff.1 (get j2 b2 e2 g2).2).1; omega) getb (get j2 b2 e2 g2).1 l1 m2
      · subst e2
        have := isb b2 g2; subst this
        rw [s2, s1 j1 e1]
        exact hheap.sep j1 H.length b1 b2 (by have := (List.getElem?_eq_some_iff.1 (get j1 b1 e1 g1).2).1; omega) (get j1 b1 e1 g1).1 getb l1 m2
      · rw [s1 j1 e1, s1 j2 e2]
        exact hheap.sep j1 j2 b1 b2 hne (get j1 b1 e1 g1).1 (get j2 b2 e2 g2).1 l1 m2
    · rw [hl2]
      by_cases hj : j = idx
      · subst hj
        have := isb x hx
        subst this
        exact ⟨hlt c hc, (hheap.wf _ x getb c hc).2⟩
      · obtain ⟨g1, g2⟩ := get j x hj hx
        exact hw.2 x (List.mem_of_getElem? g2) c hc
  have hE0 : E.H.length ≤ idx := by rw [hE]; exact h0
  have size : (St.put ⟨sl, H.set idx b⟩ d (r.at_ idx)).slots.length = (St.put ⟨sl, H ++ [b]⟩ d (r.at_ H.length)).slots.length := by
    unfold St.put; split
    · simp [setn_length]
    · rfl
  refine ⟨σ', h.defers, by rw [size]; exact h.size, fun t v hv' => ?_, fun v hv' => ?_, by rw [put_heap]; exact hrel, by rw [put_heap]; simp only [hl2]; omega, fun j hj => by rw [s1 j (by omega)]; exact h.agree j hj, h.fr, fun j x hx hm => ?_⟩
  · have hs := h.slots t
    cases d with
    | none =>
      rcases hs v hv' with h1 | h1
      · exact .inl h1
      · right; rw [h1, conc_noref s1 v (hsl v (List.mem_of_getElem? hv'))]
    | some d =>
      simp only [St.put, setn_eq, List.getElem?_set] at hs hv'
      by_cases e : d = t
      · rw [if_pos e] at hv'
        split at hv'
        · rename_i hlt'
          cases hv'
          have := hs (r.at_ H.length) (by rw [if_pos e, if_pos hlt'])
          rcases this with h1 | h1
          · cases r <;> cases h1
          · right; rw [h1, hv]
        · cases hv'
      · rw [if_neg e] at hv'
        rcases hs v (by rw [if_neg e]; exact hv') with h1 | h1
        · exact .inl h1
        · right; rw [h1, conc_noref s1 v (hsl v (List.mem_of_getElem? hv'))]
  · rw [put_heap]
    simp only [hl2]
    cases d with
    | none => exact hw.1 v hv'
    | some d =>
      simp only [St.put, setn_eq] at hv'
      rcases List.mem_or_eq_of_mem_set hv' with hv' | rfl
      · exact hw.1 v hv'
      · cases r <;> exact hidx
  · have hn := h.new
    rw [put_heap] at hx hn
    by_cases hj : j = idx
    · subst hj
      have := isb x hx
      subst this
      rw [s2]; exact hn _ x getb hm
    · rw [s1 j hj]; exact hn j x (get j x hj hx).1 hm
end
end Go.Sx
namespace Go.Sx
open Go.RowKit

theorem St.ext' {s t : St} (h1 : s.slots = t.slots) (h2 : s.heap = t.heap) : s = t := by
  cases s; cases t; simp only at h1 h2; rw [h1, h2]

theorem Wo_of_opV {P : Program} {n0 : Nat} {o : Oper} {F : St → Prop} {s s' : St} {p : Prop} {v : V} (hne : ∀ f xs ats, o.op ≠ .call { callee := .value f, args := xs, argTypes := ats }) (h : opV P n0 s o.op = some (p, v, s')) (hp : p) (hF : F (s'.put o.dst v)) : Wo P n0 o F s := by
  unfold Wo
  split
  · rename_i f xs ats hop; exact absurd hop (hne f xs ats)
  · rw [h]; exact ⟨hp, hF⟩

theorem looks_mem {ops : Array Oper} {i : Nat} {o : Oper} (ho : ops[i]? = some o) {t : Tmp} (h : Operand.tmp t ∈ o.op.operands) : t ∈ looks ops i := by
  unfold looks
  rw [ho]
  refine List.mem_append.2 (.inl (List.mem_filterMap.2 ⟨.tmp t, by simpa using h, rfl⟩))

theorem guardV_congr {ops : Array Oper} {i : Nat} {o : Oper} (ho : ops[i]? = some o) {sl sl' : List V} (h : ∀ t, t ∈ looks ops i → nth sl t = nth sl' t) : guardV ops sl o = guardV ops sl' o := by
  unfold guardV
  split
  · rfl
  · rename_i j want hg
    split
    · rename_i d hd
      have : d ∈ looks ops i := by
        unfold looks
        rw [ho]
        refine List.mem_append.2 (.inr ?_)
        simp [hg, hd]
      rw [h d this]
    · rfl

section
variable {P : Program} {ops : Array Oper} {pre : List (List Nat)} {N : Nat} {tl : List Tm} {st : Nat → St}

theorem step_any (hL : Line P ops pre N tl st) (hw : AWf (st 0)) (hc : chkSlots ops pre N = true) {n0 : Nat} (hn0 : n0 ≤ (st 0).heap.length) {S : Nat → Bool} {i : Nat} (hu : Up pre N S i) {o : Oper} (ho : ops[i]? = some o) (hwS : AWf (mkS ops N tl st S)) :
    ∃ g, guardV ops (mkS ops N tl st S).slots o = some g ∧ (g = true → Wo P n0 o (fun s' => Weak n0 s' (mkS ops N tl st (orS S i))) (mkS ops N tl st S)) ∧ (g = false → Weak n0 ((mkS ops N tl st S).put o.dst (.t [])) (mkS ops N tl st (orS S i))) := by
  obtain ⟨o', rec, h1, h2, hv, hb, hd, hst⟩ := hL.at_ hu.lt
  rw [ho] at h1
  cases h1
  have hsl := fun t ht => slot_same hL hc hu t ht
  have hev : ∀ x ∈ o.op.operands, ev (mkS ops N tl st S).slots x = ev (st i).slots x := fun x hx => ev_congr fun t ht => hsl t (looks_mem ho (ht ▸ hx))
  have hg := guardV_congr ho hsl
  have hput := put_same hL hc hu
  rw [hd] at hput
  have hwi := hL.wf hw i (Nat.le_of_lt hu.lt)
  have hmk : (tl[i]?).map Tm.e = some rec.e := by rw [h2]; rfl
  -- a block that the operation reaches
  have reach : ∀ idx, idx < (st i).heap.length → okRd (pr pre i) idx (tl.take i) i → ((tl[i]?).map Tm.e = some (.rd idx) ∨ (tl[i]?).map Tm.e = some (.wr idx)) → (mkS ops N tl st S).heap[idx]? = (st i).heap[idx]? := by
    intro idx hidx hrd hm
    refine blk_same hL hu idx hidx (fun k b hk hbk => ?_) (fun k b hk hkN hbk => ?_)
    · rcases hL.mark (Nat.lt_trans hk hu.lt) hbk with h | h
      · exact (okRd_at hrd k hk idx (.inl (by rw [take_get tl hk]; exact h))).resolve_right (fun h => h rfl)
      · exact (okRd_at hrd k hk idx (.inr (by rw [take_get tl hk]; exact h))).resolve_right (fun h => h rfl)
    · refine hL.later hk hkN hbk (by rcases hm with hm | hm <;> simp [hm]) ?_
      exact Nat.lt_of_lt_of_le hidx (hL.heapLen i (i + 1) (Nat.le_succ _) hu.lt)
  have okRd_of_wr : ∀ idx, okWr (pr pre i) idx (tl.take i) i → ∀ k, k < i → ∀ j, ((tl[k]?).map Tm.e = some (.wr j) ∨ (tl[k]?).map Tm.e = some (.al j)) → k ∈ pr pre i ∨ idx ≠ j := fun idx h k hk j hj =>
    (okWr_at h k hk).1 j (by rw [take_get tl hk]; rcases hj with hj | hj <;> simp [hj])
  generalize hs1 : st (i + 1) = s1 at hst
  cases hst with
  | skip hgd =>
    refine ⟨false, by rw [hg]; exact hgd, (fun e => nomatch e), fun _ => ?_⟩
    have e : (mkS ops N tl st S).put o.dst (.t []) = mkS ops N tl st (orS S i) := St.ext' (by rw [← hput, hv]) (by rw [put_heap, heap_same hL hu hb])
    rw [e]; exact Weak.refl _ _
  | pure hgd hp hq hno =>
    rename_i p v
    refine ⟨true, by rw [hg]; exact hgd, fun _ => ?_, (fun e => nomatch e)⟩
    have hp' : pureV P (mkS ops N tl st S).slots o.op = some (p, v) := by rw [pureV_congr hev]; exact hp
    refine Wo_of_opV (fun f xs ats e => ?_) (opV_pure hp') hq ?_
    · rw [e] at hp; simp [pureV, pv] at hp
    · have e : (mkS ops N tl st S).put o.dst v = mkS ops N tl st (orS S i) := St.ext' (by rw [← hput, hv]) (by rw [put_heap, heap_same hL hu hb])
      rw [e]; exact Weak.refl _ _
  | load hgd hop hx hld hq hrd hno =>
    rename_i t x idx off p v
    refine ⟨true, by rw [hg]; exact hgd, fun _ => ?_, (fun e => nomatch e)⟩
    have hidx : idx < (st i).heap.length := by
      unfold ldV at hld
      dsimp only at hld
      cases hh : (st i).heap[idx]? with
      | none => rw [hh] at hld; split at hld <;> simp_all
      | some b => exact (List.getElem?_eq_some_iff.1 hh).1
    have hblk := reach idx hidx hrd (.inl hmk)
    have hld' : ldV P (mkS ops N tl st S).heap t (.p idx off) = some (p, v) := by
      unfold ldV at hld ⊢
      dsimp only at hld ⊢
      rw [hblk]; exact hld
    have hex : ev (mkS ops N tl st S).slots x = .p idx off := by rw [hev x (by rw [hop]; simp [Op.operands]), hx]
    refine Wo_of_opV (s' := mkS ops N tl st S) (p := p) (v := v) (fun f xs ats e => by rw [hop] at e; cases e) ?_ hq ?_
    · rw [hop]; simp only [opV]; rw [hex, hld']; rfl
    · have e : (mkS ops N tl st S).put o.dst v = mkS ops N tl st (orS S i) := St.ext' (by rw [← hput, hv]) (by rw [put_heap, heap_same hL hu hb])
      rw [e]; exact Weak.refl _ _
  | slc hgd hop hx hsl2 hq hidx hrd hno =>
    rename_i t x lo hi mx idx off len c p v
    refine ⟨true, by rw [hg]; exact hgd, fun _ => ?_, (fun e => nomatch e)⟩
    have hblk := reach idx hidx hrd (.inl hmk)
    have hex : ev (mkS ops N tl st S).slots x = .s idx off len c := by rw [hev x (by rw [hop]; simp [Op.operands]), hx]
    have em : ∀ m : Option Operand, (∀ y, m = some y → y ∈ o.op.operands) → m.map (ev (mkS ops N tl st S).slots) = m.map (ev (st i).slots) := fun m hm => by
      cases m with
      | none => rfl
      | some y => simp only [Option.map_some]; rw [hev y (hm y rfl)]
    refine Wo_of_opV (s' := mkS ops N tl st S) (p := p) (v := v) (fun f xs ats e => by rw [hop] at e; cases e) ?_ hq ?_
    · rw [hop]; simp only [opV]
      rw [hex, em lo (by rintro y rfl; rw [hop]; simp [Op.operands]), em hi (by rintro y rfl; rw [hop]; simp [Op.operands]), em mx (by rintro y rfl; rw [hop]; simp [Op.operands]), slV_congr hblk, hsl2]; rfl
    · have e : (mkS ops N tl st S).put o.dst v = mkS ops N tl st (orS S i) := St.ext' (by rw [← hput, hv]) (by rw [put_heap, heap_same hL hu hb])
      rw [e]; exact Weak.refl _ _
  | cnv hgd hop hkk hbb hq hrd hno =>
    rename_i t u x idx off len p v
    refine ⟨true, by rw [hg]; exact hgd, fun _ => ?_, (fun e => nomatch e)⟩
    obtain ⟨c, e, hx, hby, hst⟩ := cvK_some hkk
    obtain ⟨b0, hb0⟩ := cvB_get hbb
    have hidx : idx < (st i).heap.length := (List.getElem?_eq_some_iff.1 hb0).1
    have hblk := reach idx hidx hrd (.inl hmk)
    have hex : ev (mkS ops N tl st S).slots x = .s idx off len c := by rw [hev x (by rw [hop]; simp [Op.operands]), hx]
    have hcv : convV P t u (.s idx off len c) = none := by
      unfold convV
      have h1 := (bySl_some hby).1
      have h2 := strT_true hst
      simp [h1, h2]
    refine Wo_of_opV (s' := mkS ops N tl st S) (p := p) (v := v) (fun f xs ats e => by rw [hop] at e; cases e) ?_ hq ?_
    · rw [hop]; simp only [opV]
      rw [hex]
      unfold cvV
      rw [hcv]
      simp only [hby, hst, hblk, hb0]
      rw [hb0] at hbb
      unfold cvB at hbb
      obtain ⟨ns, hns, e2⟩ := Option.map_eq_some_iff.1 hbb
      cases e2
      simp only [hns]
    · have e : (mkS ops N tl st S).put o.dst v = mkS ops N tl st (orS S i) := St.ext' (by rw [← hput, hv]) (by rw [put_heap, heap_same hL hu hb])
      rw [e]; exact Weak.refl _ _
  | store hgd hop hsb hq hwr hno =>
    rename_i t x y idx b p
    refine ⟨true, by rw [hg]; exact hgd, fun _ => ?_, (fun e => nomatch e)⟩
    obtain ⟨off, b0, n, hy, hb0, hn, hpe, hbe⟩ := stB_some hsb
    have hidx : idx < (st i).heap.length := (List.getElem?_eq_some_iff.1 hb0).1
    have hblk : (mkS ops N tl st S).heap[idx]? = (st i).heap[idx]? := by
      refine blk_same hL hu idx hidx (fun k b hk hbk => ?_) (fun k b hk hkN hbk => ?_)
      · exact (okRd_of_wr idx hwr k hk idx (hL.mark (Nat.lt_trans hk hu.lt) hbk)).resolve_right (fun h => h rfl)
      · exact hL.later hk hkN hbk (.inr (.inl hmk)) (Nat.lt_of_lt_of_le hidx (hL.heapLen i (i + 1) (Nat.le_succ _) hu.lt))
    have e1 : ev (mkS ops N tl st S).slots x = ev (st i).slots x := hev x (by rw [hop]; simp [Op.operands])
    have e2 : ev (mkS ops N tl st S).slots y = ev (st i).slots y := hev y (by rw [hop]; simp [Op.operands])
    have hsb' : stB P (mkS ops N tl st S).heap t (ev (mkS ops N tl st S).slots y) (ev (mkS ops N tl st S).slots x) = some (p, idx, b) := by
      rw [e1, e2]
      unfold stB at hsb ⊢
      rw [hy] at hsb ⊢
      dsimp only at hsb ⊢
      rw [hblk]; exact hsb
    refine Wo_of_opV (s' := ⟨(mkS ops N tl st S).slots, (mkS ops N tl st S).heap.set idx b⟩) (p := p) (v := .any) (fun f xs ats e => by rw [hop] at e; cases e) ?_ hq ?_
    · rw [hop]; simp only [opV]; rw [stV_of_stB hsb']; rfl
    · have e : St.put ⟨(mkS ops N tl st S).slots, (mkS ops N tl st S).heap.set idx b⟩ o.dst .any = mkS ops N tl st (orS S i) := by
        refine St.ext' ?_ ?_
        · rw [← hput, hv]; unfold St.put; split <;> rfl
        · rw [put_heap]
          refine (heap_set hL hu hb fun k b' hk hkN hbk => ?_).symm
          exact hL.later hk hkN hbk (.inr (.inl hmk)) (Nat.lt_of_lt_of_le hidx (hL.heapLen i (i + 1) (Nat.le_succ _) hu.lt))
      rw [e]; exact Weak.refl _ _
  | new hgd hn hq hno =>
    rename_i p r b
    refine ⟨true, by rw [hg]; exact hgd, fun _ => ?_, (fun e => nomatch e)⟩
    have hn' : newV P (mkS ops N tl st S).slots o.op = some (p, r, b) := by rw [newV_congr hev]; exact hn
    have hlen1 : (st (i + 1)).heap.length = (st i).heap.length + 1 := by rw [hs1, put_heap]; simp
    have hL1 : (st i).heap.length < (st N).heap.length := by
      have := hL.heapLen (i + 1) N hu.lt (Nat.le_refl _); omega
    have hcw := newV_wf hwi hn hq
    have hlater : ∀ k b', i < k → k < N → bk tl k = some ((st i).heap.length, b') → i ∈ pr pre k := fun k b' hk hkN hbk =>
      hL.later hk hkN hbk (.inr (.inr hmk)) (by omega)
    obtain ⟨nl1, nl2⟩ := no_lead hL hw hu hmk
    refine Wo_of_opV (fun f xs ats e => ?_) (opV_new hn') hq ?_
    · rw [e] at hn; simp [newV] at hn
    · have hdead : (mkS ops N tl st S).heap[(st i).heap.length]? = some deadB := by
        rw [mkS_heap S _ hL1]
        congr 1
        have h0 := hL.heapLen 0 i (Nat.zero_le _) (Nat.le_of_lt hu.lt)
        rcases last_cases (W := on S (bAt tl (st i).heap.length)) (x := (st 0).heap.getD (st i).heap.length deadB) N with h | ⟨k, y, hk, hW, h⟩
        · rw [h]; simp [List.getD, List.getElem?_eq_none h0]
        · exfalso
          unfold on at hW
          split at hW
          · rename_i hS
            unfold bAt at hW
            obtain ⟨q, hq', hW⟩ := Option.bind_eq_some_iff.1 hW
            obtain ⟨q1, q2⟩ := q
            split at hW
            · rename_i e
              simp only at e
              subst e
              rcases Nat.lt_trichotomy k i with hki | hki | hki
              · have a1 := hL.bkLt hk hq'
                have a2 := hL.heapLen (k + 1) i hki (Nat.le_of_lt hu.lt)
                omega
              · subst hki; rw [hu.no] at hS; cases hS
              · have := hu.not hk (hlater k q2 hki hk hq'); rw [hS] at this; cases this
            · cases hW
          · cases hW
      have hpl := Weak.place (n0 := n0) (sl := (mkS ops N tl st S).slots) (H := (mkS ops N tl st S).heap) (idx := (st i).heap.length) (b := b) (r := r) (d := o.dst) hdead
        (Nat.le_trans hn0 (hL.heapLen 0 i (Nat.zero_le _) (Nat.le_of_lt hu.lt))) nl1 nl2 (lts_norefs (Nat.le_refl _) _ ((lts_iff _ _).2 fun c hc => (hcw c hc).1))
        (fun c hc => V.lt_mono (by rw [mkS_len]; exact Nat.le_of_lt hL1) c (hcw c hc).1) hwS
      have e : St.put ⟨(mkS ops N tl st S).slots, (mkS ops N tl st S).heap.set (st i).heap.length b⟩ o.dst (r.at_ (st i).heap.length) = mkS ops N tl st (orS S i) := by
        refine St.ext' ?_ ?_
        · rw [← hput, hv]; unfold St.put; split <;> rfl
        · rw [put_heap]; exact (heap_set hL hu hb hlater).symm
      rw [← e]; exact hpl
  | call hgd hop hf hsol hret hcl hno hlt =>
    rename_i f xs ats n cs v hid
    refine ⟨true, by rw [hg]; exact hgd, fun _ => ?_, (fun e => nomatch e)⟩
    have ef : ev (mkS ops N tl st S).slots f = .f n cs := by rw [hev f (by rw [hop]; simp [Op.operands, Call.operands]), hf]
    have ex : xs.toList.map (ev (mkS ops N tl st S).slots) = xs.toList.map (ev (st i).slots) := List.map_congr_left fun q hq => hev q (by rw [hop]; simp only [Op.operands, Call.operands]; exact Array.mem_append.2 (.inr (by simpa using hq)))
    have hfr := Ret.frame (H2 := (mkS ops N tl st S).heap) hret (fun idx b hi hl => by
      rw [hide_get] at hi
      obtain ⟨b', hb', hi⟩ := Option.map_eq_some_iff.1 hi
      by_cases hh : idx ∈ hid
      · rw [if_pos hh] at hi; subst hi; simp [deadB, BK.live] at hl
      · rw [if_neg hh] at hi
        subst hi
        have hidx : idx < (st i).heap.length := (List.getElem?_eq_some_iff.1 hb').1
        rw [blk_same hL hu idx hidx (fun k b hk hbk => ?_) (fun k b hk hkN hbk => ?_)]
        · exact hb'
        · exact (okCl_at hcl k hk idx (by rw [take_get tl hk]; exact hL.mark (Nat.lt_trans hk hu.lt) hbk)).resolve_right hh
        · exact hL.laterCl hk hkN hbk hmk hidx hh (hL.heapLen i (i + 1) (Nat.le_succ _) hu.lt))
      (by rw [hide_length, mkS_len]; exact hL.heapLen i N (Nat.le_of_lt hu.lt) (Nat.le_refl _))
      (fun b hbm c hc => by
        rw [hide_length]
        obtain ⟨j, hj⟩ := List.getElem?_of_mem hbm
        rw [hide_get] at hj
        obtain ⟨b', hb', hj⟩ := Option.map_eq_some_iff.1 hj
        by_cases hh : j ∈ hid
        · rw [if_pos hh] at hj; subst hj; cases hc
        · rw [if_neg hh] at hj; subst hj; exact hwi.2 b' (List.mem_of_getElem? hb') c hc)
      (by
        rw [hide_length]
        refine (lts_iff _ _).2 fun c hc => ?_
        rcases List.mem_append.1 hc with hc | hc
        · obtain ⟨q, _, rfl⟩ := List.mem_map.1 hc; exact hwi.ev q
        · have := hwi.ev f; rw [hf] at this; exact lts_mem this hc)
    unfold Wo
    rw [hop]
    dsimp only
    rw [ef]
    dsimp only
    rw [ex]
    refine ⟨hsol, hfr.1, hfr.2.mono ?_⟩
    rintro v1 H1 ⟨rfl, rfl⟩
    have e : St.put ⟨(mkS ops N tl st S).slots, (mkS ops N tl st S).heap⟩ o.dst v1 = mkS ops N tl st (orS S i) := St.ext' (by rw [← hput, hv]) (by rw [put_heap, heap_same hL hu hb])
    rw [e]; exact Weak.refl _ _
end
end Go.Sx
namespace Go.Sx
open Go.RowKit

def chkTopo (ops : Array Oper) : Bool := (List.range ops.size).all fun i => (dirs ops i).all fun j => decide (j < i)
def chk (ops : Array Oper) (pre : List (List Nat)) (N : Nat) : Bool := chkPre ops pre && chkTopo ops && chkSlots ops pre N && chkTail ops pre N && decide (N ≤ ops.size)

def Dw0 (P : Program) (n0 : Nat) (ops : Array Oper) (F : St → Prop) (s : St) : Prop :=
  ∃ (pre : List (List Nat)) (N : Nat), chk ops pre N = true ∧ Wm P ops pre 0 (ops.toList.take N) [] (fun s' => Wl P n0 ops (ops.toList.drop N) F s') s

def unl (l : Array Bool) : Nat → Nat
  | 0 => 0
  | n + 1 => unl l n + if l.getD n false = true then 0 else 1

theorem unl_zero {l : Array Bool} : ∀ n, unl l n = 0 → ∀ k, k < n → l.getD k false = true
  | 0, _, k, hk => absurd hk (Nat.not_lt_zero k)
  | n + 1, h, k, hk => by
    simp only [unl] at h
    rcases Nat.lt_or_ge k n with hlt | hge
    · exact unl_zero n (by omega) k hlt
    · have : k = n := by omega
      subst this
      by_cases hl : l.getD k false = true
      · exact hl
      · rw [if_neg hl] at h; omega
theorem getD_set (l : Array Bool) (i k : Nat) (h : i < l.size) : (l.setIfInBounds i true).getD k false = if k = i then true else l.getD k false := by
  by_cases e : k = i
  · subst e; simp [Array.getD, h]
  · rw [if_neg e, getD_set_ne false (fun h => e h.symm)]
theorem unl_set {l : Array Bool} {i : Nat} (hi : i < l.size) (h : l.getD i false = false) : ∀ n, unl (l.setIfInBounds i true) n + (if i < n then 1 else 0) = unl l n
  | 0 => by simp [unl]
  | n + 1 => by
    have ih := unl_set hi h n
    simp only [unl, getD_set l i n hi]
    by_cases e : n = i
    · subst e
      rw [if_pos rfl, if_pos rfl, if_pos (Nat.lt_succ_self n), h]
      rw [if_neg (Nat.lt_irrefl n)] at ih
      simp; omega
    · rw [if_neg e]
      by_cases hl : i < n
      · rw [if_pos hl] at ih; have h2 : i < n + 1 := by omega
        rw [if_pos h2]; omega
      · rw [if_neg hl] at ih; have h2 : ¬ i < n + 1 := by omega
        rw [if_neg h2]; omega
theorem unl_le (l : Array Bool) : ∀ n, unl l n ≤ n
  | 0 => Nat.le_refl _
  | n + 1 => by simp only [unl]; have := unl_le l n; split <;> omega

theorem AWf_of_rel {E : En} {σ : Nat → Loc} {s : St} {a : Act} {w : World} (h : Rel E σ s a w) : AWf s :=
  ⟨h.lt, fun b hb c hc => by obtain ⟨i, hi⟩ := List.getElem?_of_mem hb; exact h.heap.wf i b hi c hc⟩

theorem Rel.deads {E : En} {σ : Nat → Loc} {s : St} {a : Act} {w : World} (h : Rel E σ s a w) (n : Nat) : Rel E σ ⟨s.slots, s.heap ++ List.replicate n deadB⟩ a w := by
  have cs : ∀ (i : Nat) (b : Blk), (s.heap ++ List.replicate n deadB)[i]? = some b → s.heap[i]? = some b ∨ b = deadB := fun i b hi => by
    rcases Nat.lt_or_ge i s.heap.length with hl | hl
    · rw [List.getElem?_append_left hl] at hi; exact .inl hi
    · rw [List.getElem?_append_right hl, List.getElem?_replicate] at hi
      split at hi
      · cases hi; exact .inr rfl
      · cases hi
  refine ⟨h.defers, h.size, h.slots, fun v hv => V.lt_mono (by simp) v (h.lt v hv), ⟨fun i b hi => ?_, fun i j bi bj hne hi hj l1 m2 => ?_, fun i b hi c hc => ?_⟩, by simp; have := h.len; omega, h.agree, h.fr, fun i b hi hm => ?_⟩
  · rcases cs i b hi with h1 | rfl
    · exact h.heap.holds i b h1
    · trivial
  · rcases cs i bi hi with h1 | rfl
    · rcases cs j bj hj with h2 | rfl
      · exact h.heap.sep i j bi bj hne h1 h2 l1 m2
      · cases m2
    · cases l1
  · rcases cs i b hi with h1 | rfl
    · exact ⟨V.lt_mono (by simp) c (h.heap.wf i b h1 c hc).1, (h.heap.wf i b h1 c hc).2⟩
    · cases hc
  · rcases cs i b hi with h1 | rfl
    · exact h.new i b h1 hm
    · cases hm

theorem least {p : Nat → Prop} : ∀ n, (∃ k, k < n ∧ p k) → ∃ k, k < n ∧ p k ∧ ∀ j, j < k → ¬ p j
  | 0, ⟨k, hk, _⟩ => absurd hk (Nat.not_lt_zero k)
  | n + 1, ⟨k, hk, hp⟩ => by
    by_cases h : ∃ k, k < n ∧ p k
    · obtain ⟨k, h1, h2⟩ := least n h; exact ⟨k, Nat.lt_succ_of_lt h1, h2⟩
    · exact ⟨k, hk, hp, fun j hj hpj => h ⟨j, by omega, hpj⟩⟩

theorem drawLaw0 {P : Program} (hm : P.follows .mixedOrders = true) : DrawLaw P (Dw0 P) := by
  intro id ops E F Q σ s a w hrel hD hQ
  obtain ⟨pre, N, hchk, hWm⟩ := hD
  simp only [chk, Bool.and_eq_true, decide_eq_true_eq] at hchk
  obtain ⟨⟨⟨⟨cPre, cTopo⟩, cSlots⟩, cTail⟩, hN⟩ := hchk
  have htk : (ops.toList.take N).length = N := by rw [List.length_take, Array.length_toList]; omega
  obtain ⟨tl, st, hlen, hst0, hF, hsteps⟩ := Wm_line P ops pre (ops.toList.take N) 0 [] _ s hWm (fun j hj => by
    rw [htk] at hj; rw [List.getElem?_take, if_pos hj, Nat.zero_add]; simp)
  rw [htk] at hF hlen hsteps
  have hL : Line P ops pre N tl st := ⟨hlen, fun i hi => by
    obtain ⟨o, rec, h1, h2, h3⟩ := hsteps i hi
    simp only [Nat.zero_add, List.nil_append] at h1 h3
    exact ⟨o, rec, h1, h2, h3⟩⟩
  have hw0 : AWf (st 0) := by rw [hst0]; exact AWf_of_rel hrel
  have hn0 : E.H.length ≤ (st 0).heap.length := by rw [hst0]; exact hrel.len
  have hdir : ∀ (i : Nat) (o : Oper), ops[i]? = some o → ∀ e ∈ o.after, Region.binds .any e = true → e.on ∈ dirs ops i := fun i o ho e he hb => by
    unfold dirs; rw [ho]; exact List.mem_map.2 ⟨e, List.mem_filter.2 ⟨by simpa using he, hb⟩, rfl⟩
  have hdirI : ∀ (i : Nat), ∀ j ∈ dirs ops i, ∃ o, ops[i]? = some o ∧ ∃ e ∈ o.after, Region.binds .any e = true ∧ e.on = j := fun i j hj => by
    unfold dirs at hj
    split at hj
    · rename_i o ho
      obtain ⟨e, he, rfl⟩ := List.mem_map.1 hj
      obtain ⟨h1, h2⟩ := List.mem_filter.1 he
      exact ⟨o, ho, e, by simpa using h1, h2, rfl⟩
    · cases hj
  have hpre : ∀ i, i < ops.size → ∀ j ∈ pr pre i, j ∈ dirs ops i ∨ ∃ e ∈ dirs ops i, j ∈ pr pre e := fun i hi j hj => by
    have := List.all_eq_true.1 (List.all_eq_true.1 cPre i (List.mem_range.2 hi)) j hj
    simp only [Bool.or_eq_true, List.contains_iff_mem, List.any_eq_true] at this
    exact this
  have htopo : ∀ i, i < ops.size → ∀ j ∈ dirs ops i, j < i := fun i hi j hj => by
    have := List.all_eq_true.1 (List.all_eq_true.1 cTopo i (List.mem_range.2 hi)) j hj
    simpa using this
  have htail : ∀ j, N ≤ j → j < ops.size → ∀ k, k < j → k ∈ pr pre j := fun j h1 h2 k hk => by
    have := List.all_eq_true.1 cTail j (List.mem_range.2 h2)
    simp only [Bool.or_eq_true, decide_eq_true_eq] at this
    rcases this with h | h
    · omega
    · simpa using List.all_eq_true.1 h k (List.mem_range.2 hk)
  have hrel' : Rel E σ s a { w with drawn := w.drawn + 1 } := hrel.world (fun _ _ => rfl) (Nat.le_refl _) (hrel.heap.keep (fun _ _ => rfl) (Nat.le_refl _) (fun _ _ _ _ => rfl)) rfl rfl rfl (Nat.le_refl _) (fun _ _ => .inr rfl) hrel.new
  refine wp_region_any hm ?_
  -- what holds whatever has come up
  let Good : Array Bool → Act → World → Prop := fun listed a w =>
    ((∀ k, N ≤ k → listed.getD k false = false) ∧ ∃ σ, Rel E σ (mkS ops N tl st fun k => listed.getD k false) a w) ∨
    (∃ m, N ≤ m ∧ m ≤ ops.size ∧ (∀ k, listed.getD k false = true ↔ k < m) ∧ ∃ σ s, Rel E σ s a w ∧ Wl P E.H.length ops (ops.toList.drop m) F s)
  have main : ∀ (fuel : Nat) (listed : Array Bool) (a : Act) (w : World), listed.size = ops.size → unl listed ops.size ≤ fuel →
      (∀ k, k < ops.size → listed.getD k false = true → ∀ j ∈ pr pre k, listed.getD j false = true) → Good listed a w → wpAny P .any ops Q fuel listed a w := by
    intro fuel
    induction fuel with
    | zero =>
      intro listed a w hsz hu hdown hG
      have hall := unl_zero (l := listed) ops.size (by omega)
      refine ⟨?_, ?_⟩
      · cases hr : Region.ready .any ops listed with
        | nil => rfl
        | cons i r =>
          have hi : i ∈ Region.ready .any ops listed := by rw [hr]; exact List.mem_cons_self ..
          obtain ⟨h1, o, ho, _⟩ := mem_ready.1 hi
          have hlt : i < ops.size := (Array.getElem?_eq_some_iff.1 ho).1
          have := hall i hlt
          simp [Array.getD, hsz, hlt] at h1 this
          rw [h1] at this; cases this
      · rcases hG with ⟨h1, σ, hr⟩ | ⟨m, h1, h2, h3, σ, s, hr, hwl⟩
        · have hNs : N = ops.size := by
            rcases Nat.lt_or_ge N ops.size with h | h
            · have := h1 N (Nat.le_refl _); rw [hall N h] at this; cases this
            · omega
          rw [mkS_full hL (fun k hk => hall k (by omega))] at hr
          have : ops.toList.drop N = [] := List.drop_eq_nil_of_le (by simp; omega)
          rw [this] at hF
          exact hQ σ _ a w hF hr
        · have hm' : m = ops.size := by
            rcases Nat.lt_or_ge m ops.size with h | h
            · have := (h3 m).1 (hall m h); omega
            · omega
          have : ops.toList.drop m = [] := List.drop_eq_nil_of_le (by simp; omega)
          rw [this] at hwl
          exact hQ σ s a w hwl hr
    | succ fuel ih =>
      intro listed a w hsz hu hdown hG
      -- which stands next
      have ready_of : ∀ i, i < ops.size → listed.getD i false = false → (∀ j, j < i → listed.getD j false = true) → i ∈ Region.ready .any ops listed := fun i hi hno hb => by
        refine mem_ready.2 ⟨by simp [Array.getD, hsz, hi] at hno ⊢; exact hno, ops[i], by simp [hi], fun e he hbi => ?_⟩
        exact hb _ (htopo i hi _ (hdir i ops[i] (by simp [hi]) e he hbi))
      refine ⟨fun hnil => ?_, fun i hi => ?_⟩
      · have hall : ∀ k, k < ops.size → listed.getD k false = true := fun k hk => by
          cases hl : listed.getD k false with
          | true => rfl
          | false =>
            obtain ⟨k', h1, h2, h3⟩ := least (p := fun k => listed.getD k false = false) ops.size ⟨k, hk, hl⟩
            have := ready_of k' h1 h2 fun j hj => by
              cases hlj : listed.getD j false with
              | true => rfl
              | false => exact absurd hlj (h3 j hj)
            rw [hnil] at this; cases this
        rcases hG with ⟨h1, σ, hr⟩ | ⟨m, h1, h2, h3, σ, s, hr, hwl⟩
        · have hNs : N = ops.size := by
            rcases Nat.lt_or_ge N ops.size with h | h
            · have := h1 N (Nat.le_refl _); rw [hall N h] at this; cases this
            · omega
          rw [mkS_full hL (fun k hk => hall k (by omega))] at hr
          have : ops.toList.drop N = [] := List.drop_eq_nil_of_le (by simp; omega)
          rw [this] at hF
          exact hQ σ _ a w hF hr
        · have hm' : m = ops.size := by
            rcases Nat.lt_or_ge m ops.size with h | h
            · have := (h3 m).1 (hall m h); omega
            · omega
          have : ops.toList.drop m = [] := List.drop_eq_nil_of_le (by simp; omega)
          rw [this] at hwl
          exact hQ σ s a w hwl hr
      · obtain ⟨hno, o, ho, hedges⟩ := mem_ready.1 hi
        have hlt : i < ops.size := (Array.getElem?_eq_some_iff.1 ho).1
        have hno' : listed.getD i false = false := by simp [Array.getD, hsz, hlt] at hno ⊢; exact hno
        have hdl : ∀ j ∈ dirs ops i, listed.getD j false = true := fun j hj => by
          obtain ⟨o', ho', e, he, hb, rfl⟩ := hdirI i j hj
          rw [ho] at ho'; cases ho'
          exact hedges e he hb
        have hpl : ∀ j ∈ pr pre i, listed.getD j false = true := fun j hj => by
          rcases hpre i hlt j hj with h | ⟨e, he, h⟩
          · exact hdl j h
          · exact hdown e (Nat.lt_trans (htopo i hlt e he) hlt) (hdl e he) j h
        have hdown' : ∀ k, k < ops.size → (listed.setIfInBounds i true).getD k false = true → ∀ j ∈ pr pre k, (listed.setIfInBounds i true).getD j false = true := fun k hk hl j hj => by
          rw [getD_set _ _ _ (by omega)] at hl ⊢
          split
          · rfl
          · by_cases e : k = i
            · subst e; exact hpl j hj
            · rw [if_neg e] at hl; exact hdown k hk hl j hj
        have hu' : unl (listed.setIfInBounds i true) ops.size ≤ fuel := by
          have := unl_set (by omega) hno' ops.size; rw [if_pos hlt] at this; omega
        have next : ∀ a' w', Good (listed.setIfInBounds i true) a' w' → wpAny P .any ops Q fuel (listed.setIfInBounds i true) a' w' := fun a' w' hg =>
          ih _ a' w' (by simpa using hsz) hu' hdown' hg
        -- the tail, one behind the other
        have tailGo : ∀ m, N ≤ m → m ≤ ops.size → (∀ k, listed.getD k false = true ↔ k < m) → (∃ σ s, Rel E σ s a w ∧ Wl P E.H.length ops (ops.toList.drop m) F s) → wpOp P ops Q i (wpAny P .any ops Q fuel (listed.setIfInBounds i true)) a w := by
          rintro m h1 h2 h3 ⟨σ, s, hr, hwl⟩
          have him : i = m := by
            have g1 : ¬ i < m := fun h => by have := (h3 i).2 h; rw [hno'] at this; cases this
            rcases Nat.lt_or_ge m i with h | h
            · have := hpl m (htail i (by omega) hlt m h)
              have := (h3 m).1 this; omega
            · omega
          subst him
          have hdr : ops.toList.drop i = o :: ops.toList.drop (i + 1) := by
            have e : ops.toList[i]? = some o := by simpa using ho
            rw [List.drop_eq_getElem_cons (by simpa using hlt)]
            congr 1
            have := (List.getElem?_eq_some_iff.1 e).2
            exact this
          rw [hdr] at hwl
          have good' : ∀ (σ : Nat → Loc) (s : St) (a' : Act) (w' : World), Wl P E.H.length ops (ops.toList.drop (i + 1)) F s → Rel E σ s a' w' → Good (listed.setIfInBounds i true) a' w' := fun σ s a' w' hf hr' =>
            .inr ⟨i + 1, by omega, hlt, fun k => by
              rw [getD_set _ _ _ (by omega)]
              by_cases e : k = i
              · rw [if_pos e]; simp; omega
              · rw [if_neg e, h3 k]; omega, σ, s, hr', hf⟩
          unfold Wl at hwl
          split at hwl
          · rename_i g hg
            have hwant := guardV_sound hr hg
            unfold wpOp
            rw [ho]
            dsimp only
            rw [hwant]
            cases g
            · simp only [Bool.false_eq_true, if_false]
              exact next _ _ (good' σ _ _ _ (hwl.2 rfl) (hr.put o.dst (.t []) (by simp [V.lt, Go.Sx.lts])))
            · simp only [if_true]
              left
              exact Wo_sound hr (hwl.1 rfl) fun σ' s' a' w' hF' hr' => next _ _ (good' σ' s' a' w' hF' hr')
          · exact hwl.elim
        rcases hG with ⟨h1, σ, hr⟩ | ⟨m, h1, h2, h3, hex⟩
        · by_cases hiN : i < N
          · have hup : Up pre N (fun k => listed.getD k false) i := ⟨hiN, hno', fun k hk hl j hj => hdown k (by omega) hl j hj, hpl⟩
            obtain ⟨g, hg, ht, hf⟩ := step_any hL hw0 cSlots hn0 hup ho (AWf_of_rel hr)
            have eS : orS (fun k => listed.getD k false) i = fun k => (listed.setIfInBounds i true).getD k false := by
              funext k; rw [getD_set _ _ _ (by omega)]; rfl
            have good' : ∀ (σ : Nat → Loc) (s : St) (a' : Act) (w' : World), Weak E.H.length s (mkS ops N tl st (orS (fun k => listed.getD k false) i)) → Rel E σ s a' w' → Good (listed.setIfInBounds i true) a' w' := fun σ s a' w' hwk hr' => by
              obtain ⟨σ2, h2⟩ := hwk E σ a' w' rfl hr'
              rw [eS] at h2
              refine .inl ⟨fun k hk => ?_, σ2, h2⟩
              rw [getD_set _ _ _ (by omega), if_neg (by omega)]; exact h1 k hk
            have hwant := guardV_sound hr hg
            unfold wpOp
            rw [ho]
            dsimp only
            rw [hwant]
            cases g
            · simp only [Bool.false_eq_true, if_false]
              exact next _ _ (good' σ _ _ _ (hf rfl) (hr.put o.dst (.t []) (by simp [V.lt, Go.Sx.lts])))
            · simp only [if_true]
              left
              exact Wo_sound hr (ht rfl) fun σ' s' a' w' hF' hr' => next _ _ (good' σ' s' a' w' hF' hr')
          · have hmainall : ∀ k, k < i → listed.getD k false = true := fun k hk => hpl k (htail i (by omega) hlt k hk)
            refine tailGo N (Nat.le_refl _) hN (fun k => ⟨fun hk => ?_, fun hk => hmainall k (by omega)⟩) ⟨σ, st N, ?_, hF⟩
            · rcases Nat.lt_or_ge k N with h | h
              · exact h
              · rw [h1 k h] at hk; cases hk
            · rw [mkS_full hL (fun k hk => hmainall k (by omega))] at hr; exact hr
        · exact tailGo m h1 h2 h3 hex
  refine main ops.size _ a _ (by simp) (unl_le _ _) (fun k hk hl => ?_) (.inl ⟨fun k _ => ?_, σ, ?_⟩)
  · exfalso; simp [Array.getD] at hl
  · simp [Array.getD]
  · have hS : ∀ k, (Array.replicate ops.size false).getD k false = false := fun k => by simp [Array.getD]
    have hle := hL.heapLen 0 N (Nat.zero_le _) (Nat.le_refl _)
    have e : (mkS ops N tl st fun k => (Array.replicate ops.size false).getD k false) = ⟨(st 0).slots, (st 0).heap ++ List.replicate ((st N).heap.length - (st 0).heap.length) deadB⟩ := by
      have hnone : ∀ {α : Type} (f : Nat → Option α) (x : α), last N (on (fun k => (Array.replicate ops.size false).getD k false) f) x = x := fun f x => by
        rw [last_below 0 N (Nat.zero_le _) fun k _ _ => on_none (.inl (hS k))]; rfl
      refine St.ext' ?_ ?_
      · apply List.ext_getElem?
        intro t
        simp only [mkS, hnone, List.getElem?_map]
        rcases Nat.lt_or_ge t (st 0).slots.length with ht | ht
        · rw [List.getElem?_range ht, Option.map_some, nth_eq, List.getElem?_eq_getElem ht]; rfl
        · rw [List.getElem?_eq_none (by simpa using ht), List.getElem?_eq_none ht]; rfl
      · apply List.ext_getElem?
        intro t
        simp only [mkS, hnone, List.getElem?_map]
        rcases Nat.lt_or_ge t (st 0).heap.length with ht | ht
        · rw [List.getElem?_range (by omega), List.getElem?_append_left ht, List.getElem?_eq_getElem ht]; simp [List.getD, ht]
        · rw [List.getElem?_append_right ht, List.getElem?_replicate]
          rcases Nat.lt_or_ge t (st N).heap.length with ht2 | ht2
          · rw [List.getElem?_range ht2, if_pos (by omega)]; simp [List.getD, List.getElem?_eq_none ht]
          · rw [List.getElem?_eq_none (by simpa using ht2), if_neg (by omega)]; rfl
    rw [e, hst0]
    exact hrel'.deads _
end Go.Sx
/- Regions that draw their order: operations that stand loose beside a chain. -/
namespace Go.Sx
open Go.RowKit

theorem put_other {a : Act} {d : Option Tmp} {x : Value} {t : Nat} (h : d ≠ some t) : (a.put d x).tmps[t]? = a.tmps[t]? := by
  cases d with
  | none => rfl
  | some d =>
    simp only [Act.put, Array.getElem?_setIfInBounds]
    rw [if_neg (fun e => h (by rw [e]))]
theorem wp_frame {P : Program} {o : Oper} {a : Act} {w : World} {K : Act → World → Prop} {Q : Exit → Act → World → Prop} (hh : o.wp P a w K Q) :
    o.wp P a w (fun a' w' => K a' w' ∧ ∀ t, o.dst ≠ some t → a'.tmps[t]? = a.tmps[t]?) Q := by
  unfold Oper.wp at *
  generalize (execOp a.eval o).run P w = r at *
  have hp : ∀ (x : Value) t, o.dst ≠ some t → (a.put o.dst x).tmps[t]? = a.tmps[t]? := fun x t h => put_other h
  cases r with
  | ok n w' =>
    cases n <;> simp only [Oper.upon] at hh ⊢ <;>
      first
        | exact ⟨hh, hp _⟩
        | exact ⟨hh, fun t h => put_other (a := { a with defers := _ }) h⟩
        | exact Calls.mono hh (fun e w'' he => by cases e <;> first | exact ⟨he, hp _⟩ | exact he)
        | exact Rows.mono hh (fun _ _ he => ⟨he, hp _⟩)
  | halt x w' => cases x <;> simp only [Oper.upon] at hh ⊢ <;> exact hh
section
variable {E : En} {σ : Nat → Loc} {s : St} {a : Act} {w : World}
theorem Rel.fill (h : Rel E σ s a w) {d : Tmp} {v : V} (ha : a.tmps[d]? = some (conc σ v)) (hv : V.lt s.heap.length v) : Rel E σ (s.put (some d) v) a w := by
  refine ⟨h.defers, by simp only [St.put, setn_length]; exact h.size, fun t u hu => ?_, fun u hu => ?_, h.heap, h.len, h.agree, h.fr, h.new⟩
  · simp only [St.put, setn_eq, List.getElem?_set] at hu
    split at hu
    · rename_i e
      split at hu
      · cases hu; right; rw [← e]; exact ha
      · cases hu
    · exact h.slots t u hu
  · simp only [St.put, setn_eq] at hu
    rcases List.mem_or_eq_of_mem_set hu with hu | rfl
    · exact h.lt u hu
    · exact hv
theorem Rel.forget (h : Rel E σ s a w) (d : Tmp) : Rel E σ (s.put (some d) .any) a w := by
  refine ⟨h.defers, by simp only [St.put, setn_length]; exact h.size, fun t u hu => ?_, fun u hu => ?_, h.heap, h.len, h.agree, h.fr, h.new⟩
  · simp only [St.put, setn_eq, List.getElem?_set] at hu
    split at hu
    · split at hu
      · cases hu; exact .inl rfl
      · cases hu
    · exact h.slots t u hu
  · simp only [St.put, setn_eq] at hu
    rcases List.mem_or_eq_of_mem_set hu with hu | rfl
    · exact h.lt u hu
    · exact trivial
end
structure Ls where
  z : Nat
  d : Tmp
  v : V
def clo (l : List Ls) (s : St) : St := l.foldl (fun s x => s.put (some x.d) x.v) s
def anyL (l : List Ls) (s : St) : St := l.foldl (fun s x => s.put (some x.d) .any) s
def evZ (P : Program) (n0 : Nat) (ops : Array Oper) (x : Ls) (s : St) : Prop :=
  V.lt n0 x.v ∧ x.v ≠ .any ∧ x.d < s.slots.length ∧ ∃ o, ops[x.z]? = some o ∧ o.guard = none ∧ o.dst = some x.d ∧ Wo P n0 o (fun s' => s' = s.put (some x.d) x.v) s
def fillZ (pre : List (List Nat)) (L : List Ls) (x : Ls) (s : St) : St := clo (L.filter fun y => (pr pre x.z).contains y.z) s
theorem clo_heap : ∀ (l : List Ls) (s : St), (clo l s).heap = s.heap
  | [], s => rfl
  | x :: l, s => (clo_heap l (s.put (some x.d) x.v)).trans rfl
theorem clo_len : ∀ (l : List Ls) (s : St), (clo l s).slots.length = s.slots.length
  | [], s => rfl
  | x :: l, s => (clo_len l (s.put (some x.d) x.v)).trans (by simp only [St.put, setn_length])
theorem clo_get {t : Nat} : ∀ (l : List Ls) (s : St), (∀ x ∈ l, x.d ≠ t) → (clo l s).slots[t]? = s.slots[t]?
  | [], s, _ => rfl
  | x :: l, s, h => by
    have h1 := clo_get l (s.put (some x.d) x.v) fun y hy => h y (List.mem_cons_of_mem _ hy)
    have h2 : (clo (x :: l) s).slots[t]? = (clo l (s.put (some x.d) x.v)).slots[t]? := rfl
    rw [h2, h1]
    simp only [St.put, setn_eq, List.getElem?_set]
    rw [if_neg (h x (List.mem_cons_self ..))]
theorem any_at {s : St} {d : Tmp} {v : V} (hs : s.put (some d) .any = s) (hv : s.slots[d]? = some v) : v = .any := by
  have h1 : (s.put (some d) .any).slots[d]? = s.slots[d]? := by rw [hs]
  have hd : d < s.slots.length := (List.getElem?_eq_some_iff.1 hv).1
  rw [hv] at h1
  simp only [St.put, setn_eq, List.getElem?_set, if_true] at h1
  rw [if_pos hd] at h1
  exact (Option.some.inj h1).symm
theorem Rel.unclo {E : En} {σ : Nat → Loc} {s : St} {a : Act} {w : World} {l : List Ls} (h : Rel E σ (clo l s) a w) (hs : ∀ y ∈ l, s.put (some y.d) .any = s) : Rel E σ s a w := by
  have hh := clo_heap l s
  have key : ∀ (t : Nat) (v : V), s.slots[t]? = some v → v = .any ∨ (clo l s).slots[t]? = some v := fun t v hv => by
    by_cases e : ∃ y ∈ l, y.d = t
    · obtain ⟨y, hy, rfl⟩ := e
      exact .inl (any_at (hs y hy) hv)
    · right
      rw [clo_get l s fun y hy e2 => e ⟨y, hy, e2⟩]; exact hv
  refine ⟨h.defers, by rw [h.size, clo_len], fun t v hv => ?_, fun v hv => ?_, by rw [← hh]; exact h.heap, by rw [← hh]; exact h.len, h.agree, h.fr, by rw [← hh]; exact h.new⟩
  · rcases key t v hv with e | e
    · exact .inl e
    · exact h.slots t v e
  · obtain ⟨t, ht⟩ := List.getElem?_of_mem hv
    rcases key t v ht with e | e
    · rw [e]; trivial
    · rw [← hh]; exact h.lt v (List.mem_of_getElem? e)
theorem clo_put {s : St} {d : Tmp} {l : List Ls} (hs : s.put (some d) .any = s) (hl : ∀ y ∈ l, y.d ≠ d) : (clo l s).put (some d) .any = clo l s := by
  have e1 : ((clo l s).put (some d) .any).slots = (clo l s).slots := by
    apply List.ext_getElem?
    intro t
    simp only [St.put, setn_eq, List.getElem?_set]
    split
    · rename_i e
      subst e
      split
      · rename_i hd
        rw [clo_get l s hl]
        have hd2 : d < s.slots.length := by rw [clo_len] at hd; exact hd
        rw [List.getElem?_eq_getElem hd2, any_at hs (List.getElem?_eq_getElem hd2)]
      · rename_i hd
        rw [List.getElem?_eq_none (by omega)]
    · rfl
  generalize clo l s = q at e1
  cases q
  simp only [St.put] at e1 ⊢
  rw [e1]
abbrev Step := Nat × List Nat × List (Nat × Tmp)
def opnd (opn : List (Nat × Tmp)) (vs : List V) : List Ls := (opn.zip vs).map fun q => ⟨q.1.1, q.1.2, q.2⟩
def stay (cl : List Nat) (L : List Ls) : List Ls := L.filter fun x => !cl.contains x.z
def Wt (P : Program) (n0 : Nat) (ops : Array Oper) (pre : List (List Nat)) : List Step → List Ls → (St → Prop) → St → Prop
  | [], L, F, s => (∀ x ∈ L, evZ P n0 ops x (fillZ pre L x s)) ∧ F (clo L s)
  | (j, cl, opn) :: r, L, F, s => (∀ x ∈ L, evZ P n0 ops x (fillZ pre L x s)) ∧ ∃ o, ops[j]? = some o ∧ o.guard = none ∧
      Wo P n0 o (fun s' => ∃ vs : List V, vs.length = opn.length ∧ Wt P n0 ops pre r (stay cl L ++ opnd opn vs) F (anyL (stay cl L ++ opnd opn vs) s')) (clo (L.filter fun x => cl.contains x.z) s)
theorem clo_rel {E : En} {σ : Nat → Loc} {a : Act} {w : World} : ∀ (l : List Ls) (s : St), Rel E σ s a w → (∀ x ∈ l, V.lt E.H.length x.v ∧ a.tmps[x.d]? = some (conc E.σ x.v)) → Rel E σ (clo l s) a w
  | [], s, h, _ => h
  | x :: l, s, h, hx => by
    have h1 := hx x (List.mem_cons_self ..)
    have hc : conc σ x.v = conc E.σ x.v := conc_congr (fun i hi => h.agree i hi) _ h1.1
    exact clo_rel l (s.put (some x.d) x.v) (h.fill (by rw [hc]; exact h1.2) (V.lt_mono h.len _ h1.1)) fun y hy => hx y (List.mem_cons_of_mem _ hy)
theorem anyL_rel {E : En} {σ : Nat → Loc} {a : Act} {w : World} : ∀ (l : List Ls) (s : St), Rel E σ s a w → Rel E σ (anyL l s) a w
  | [], s, h => h
  | x :: l, s, h => anyL_rel l (s.put (some x.d) .any) (h.forget x.d)
theorem put_put_any (s : St) (d d' : Tmp) : ((s.put (some d) .any).put (some d') .any) = ((s.put (some d') .any).put (some d) .any) := by
  simp only [St.put, setn_eq]
  by_cases e : d = d'
  · subst e; rfl
  · congr 1; exact List.set_comm _ _ e
theorem put_any_any (s : St) (d : Tmp) : ((s.put (some d) .any).put (some d) .any) = s.put (some d) .any := by
  simp only [St.put, setn_eq, List.set_set]
theorem anyL_put (d : Tmp) : ∀ (l : List Ls) (s : St), (anyL l s).put (some d) .any = anyL l (s.put (some d) .any)
  | [], s => rfl
  | x :: l, s => by
    show (anyL l (s.put (some x.d) .any)).put (some d) .any = anyL l ((s.put (some d) .any).put (some x.d) .any)
    rw [anyL_put d l, put_put_any]
theorem anyL_any : ∀ (l : List Ls) (s : St) (x : Ls), x ∈ l → (anyL l s).put (some x.d) .any = anyL l s
  | y :: l, s, x, hx => by
    show (anyL l (s.put (some y.d) .any)).put (some x.d) .any = anyL l (s.put (some y.d) .any)
    rcases List.mem_cons.1 hx with rfl | hx
    · rw [anyL_put, put_any_any]
    · exact anyL_any l _ x hx
theorem evZ_run {P : Program} {E : En} {σ : Nat → Loc} {s : St} {a : Act} {w : World} {ops : Array Oper} {x : Ls} (h : Rel E σ s a w) (hs : s.put (some x.d) .any = s) (hx : evZ P E.H.length ops x s) {K : Act → World → Prop} {Q : Exit → Act → World → Prop}
    (hK : ∀ (σ' : Nat → Loc) (a' : Act) (w' : World), Rel E σ' s a' w' → a'.tmps[x.d]? = some (conc E.σ x.v) → (∀ t, t ≠ x.d → a'.tmps[t]? = a.tmps[t]?) → K a' w') :
    ∃ o, ops[x.z]? = some o ∧ o.guard = none ∧ o.wp P a w K Q := by
  obtain ⟨hlt, hne, hlen, o, ho, hg, hd, hwo⟩ := hx
  refine ⟨o, ho, hg, ?_⟩
  have h1 := wp_frame (Wo_sound (K := fun a' w' => ∃ σ', Rel E σ' (s.put (some x.d) x.v) a' w') (Q := Q) h hwo fun σ' s' a' w' e hr => ⟨σ', e ▸ hr⟩)
  refine Oper.wp_mono (fun a' w' hk => ?_) h1
  obtain ⟨⟨σ', hr⟩, hf⟩ := hk
  have hr2 := hr.forget x.d
  have e2 : (s.put (some x.d) x.v).put (some x.d) .any = s := by
    conv => rhs; rw [← hs]
    simp only [St.put, setn_eq, List.set_set]
  rw [e2] at hr2
  refine hK σ' a' w' hr2 ?_ fun t ht => hf t (by rw [hd]; intro e; exact ht (Option.some.inj e).symm)
  have h3 := hr.slots x.d x.v (by simp [St.put, setn_eq, hlen])
  rcases h3 with h3 | h3
  · exact absurd h3 hne
  · rw [h3, conc_congr (fun i hi => hr.agree i hi) _ hlt]
def pend : List Step → List Nat
  | [] => []
  | (j, _, opn) :: r => j :: (opn.map (·.1) ++ pend r)
def chkSt (pre : List (List Nat)) (ops : Array Oper) : List Step → List (Nat × Tmp) → Bool
  | [], L => decide (L.map (·.2)).Nodup
  | (j, cl, opn) :: r, L => decide (L.map (·.2)).Nodup && cl.all (fun z => (pr pre j).contains z) && (pend r).all (fun k => (pr pre k).contains j) && opn.all (fun q => (pr pre q.1).contains j) &&
      L.all (fun q => cl.contains q.1 || !(dsto ops j == some q.2)) && chkSt pre ops r (L.filter (fun q => !cl.contains q.1) ++ opn)
def zd (x : Ls) : Nat × Tmp := (x.z, x.d)
theorem opnd_zd : ∀ (opn : List (Nat × Tmp)) (vs : List V), vs.length = opn.length → (opnd opn vs).map zd = opn
  | [], [], _ => rfl
  | [], _ :: _, h => by simp at h
  | _ :: _, [], h => by simp at h
  | q :: opn, v :: vs, h => by
    have := opnd_zd opn vs (by simpa using h)
    unfold opnd at this ⊢
    rw [List.zip_cons_cons, List.map_cons, List.map_cons, this]
    rfl
theorem stay_zd (cl : List Nat) : ∀ L : List Ls, (stay cl L).map zd = (L.map zd).filter fun q => !cl.contains q.1
  | [] => rfl
  | x :: L => by
    have ih := stay_zd cl L
    unfold stay at ih ⊢
    rw [List.map_cons, List.filter_cons, List.filter_cons]
    show _ = if (!cl.contains x.z) = true then _ else _
    split
    · rw [List.map_cons, ih]
    · exact ih
theorem nodup_inj {α β : Type} {f : α → β} : ∀ {l : List α}, (l.map f).Nodup → ∀ {x y : α}, x ∈ l → y ∈ l → f x = f y → x = y
  | z :: l, h, x, y, hx, hy, e => by
    rw [List.map_cons, List.nodup_cons] at h
    rcases List.mem_cons.1 hx with e1 | hx1 <;> rcases List.mem_cons.1 hy with e2 | hy1
    · rw [e1, e2]
    · exact absurd (List.mem_map.2 ⟨y, hy1, by rw [← e, e1]⟩) h.1
    · exact absurd (List.mem_map.2 ⟨x, hx1, by rw [e, e2]⟩) h.1
    · exact nodup_inj h.2 hx1 hy1 e
theorem guardV_none {ops : Array Oper} {sl : List V} {o : Oper} (h : o.guard = none) : guardV ops sl o = some true := by unfold guardV; rw [h]
theorem wpOp_of {P : Program} {ops : Array Oper} {Q : Exit → Act → World → Prop} {i : Nat} {K : Act → World → Prop} {a : Act} {w : World} {E : En} {σ : Nat → Loc} {s : St} {o : Oper} (h : Rel E σ s a w) (ho : ops[i]? = some o) (hg : o.guard = none) (hw : o.wp P a w K Q) : wpOp P ops Q i K a w := by
  unfold wpOp
  rw [ho]
  dsimp only
  rw [guardV_sound h (guardV_none (ops := ops) (sl := s.slots) hg), if_pos rfl]
  exact .inl hw
section
variable {P : Program} {ops : Array Oper} {pre : List (List Nat)} {E : En} {F : St → Prop} {Q : Exit → Act → World → Prop}
structure Ph (P : Program) (ops : Array Oper) (pre : List (List Nat)) (E : En) (F : St → Prop) (steps : List Step) (L : List Ls) (listed : Array Bool) (σ : Nat → Loc) (s : St) (a : Act) (w : World) : Prop where
  rel : Rel E σ s a w
  any : ∀ x ∈ L, s.put (some x.d) .any = s
  wt : Wt P E.H.length ops pre steps L F s
  chk : chkSt pre ops steps (L.map zd) = true
  nod : (pend steps).Nodup
  unlisted : ∀ k ∈ pend steps, k < ops.size ∧ listed.getD k false = false
  cov : ∀ k, k < ops.size → listed.getD k false = false → k ∈ pend steps ∨ ∃ x ∈ L, x.z = k
  val : ∀ x ∈ L, listed.getD x.z false = true → a.tmps[x.d]? = some (conc E.σ x.v)
  nodz : (L.map (·.z)).Nodup
  outz : ∀ x ∈ L, x.z ∉ pend steps ∧ x.z < ops.size
theorem Ph.evz {steps : List Step} {L : List Ls} {listed : Array Bool} {σ : Nat → Loc} {s : St} {a : Act} {w : World} (h : Ph P ops pre E F steps L listed σ s a w) : ∀ x ∈ L, evZ P E.H.length ops x (fillZ pre L x s) := by
  have := h.wt
  cases steps with
  | nil => exact this.1
  | cons q r => obtain ⟨j, cl, opn⟩ := q; exact this.1
theorem Ph.nodd {steps : List Step} {L : List Ls} {listed : Array Bool} {σ : Nat → Loc} {s : St} {a : Act} {w : World} (h : Ph P ops pre E F steps L listed σ s a w) : (L.map (·.d)).Nodup := by
  have hc := h.chk
  have e : (L.map zd).map (·.2) = L.map (·.d) := by rw [List.map_map]; rfl
  cases steps with
  | nil => simp only [chkSt, decide_eq_true_eq] at hc; rwa [e] at hc
  | cons q r => obtain ⟨j, cl, opn⟩ := q; simp only [chkSt, Bool.and_eq_true, decide_eq_true_eq] at hc; have := hc.1.1.1.1.1; rwa [e] at this
theorem phase2 (htopo : ∀ i, i < ops.size → ∀ j ∈ dirs ops i, j < i) (hpre : ∀ i, i < ops.size → ∀ j ∈ pr pre i, j ∈ dirs ops i ∨ ∃ e ∈ dirs ops i, j ∈ pr pre e)
    (hQ : ∀ (σ : Nat → Loc) (s : St) (a : Act) (w : World), F s → Rel E σ s a w → Q .normal a w) :
    ∀ (fuel : Nat) (listed : Array Bool) (a : Act) (w : World) (σ : Nat → Loc) (s : St) (steps : List Step) (L : List Ls), listed.size = ops.size → unl listed ops.size ≤ fuel →
      (∀ k, k < ops.size → listed.getD k false = true → ∀ j ∈ pr pre k, listed.getD j false = true) → Ph P ops pre E F steps L listed σ s a w → wpAny P .any ops Q fuel listed a w := by
  have hdir : ∀ (i : Nat) (o : Oper), ops[i]? = some o → ∀ e ∈ o.after, Region.binds .any e = true → e.on ∈ dirs ops i := fun i o ho e he hb => by
    unfold dirs; rw [ho]; exact List.mem_map.2 ⟨e, List.mem_filter.2 ⟨by simpa using he, hb⟩, rfl⟩
  have hdirI : ∀ (i : Nat), ∀ j ∈ dirs ops i, ∃ o, ops[i]? = some o ∧ ∃ e ∈ o.after, Region.binds .any e = true ∧ e.on = j := fun i j hj => by
    unfold dirs at hj
    split at hj
    · rename_i o ho
      obtain ⟨e, he, rfl⟩ := List.mem_map.1 hj
      obtain ⟨h1, h2⟩ := List.mem_filter.1 he
      exact ⟨o, ho, e, by simpa using h1, h2, rfl⟩
    · cases hj
  have fin : ∀ (listed : Array Bool) (a : Act) (w : World) (σ : Nat → Loc) (s : St) (steps : List Step) (L : List Ls), Ph P ops pre E F steps L listed σ s a w → (∀ k, k < ops.size → listed.getD k false = true) → Q .normal a w := by
    intro listed a w σ s steps L h hall
    cases steps with
    | cons q r =>
      obtain ⟨j, cl, opn⟩ := q
      have h1 := h.unlisted j (List.mem_cons_self ..)
      rw [hall j h1.1] at h1; cases h1.2
    | nil =>
      have hr := clo_rel L s h.rel fun x hx => ⟨(h.evz x hx).1, h.val x hx (hall _ (h.outz x hx).2)⟩
      exact hQ σ _ a w h.wt.2 hr
  intro fuel
  induction fuel with
  | zero =>
    intro listed a w σ s steps L hsz hu hdown h
    have hall := unl_zero (l := listed) ops.size (by omega)
    refine ⟨?_, fin listed a w σ s steps L h hall⟩
    cases hr : Region.ready .any ops listed with
    | nil => rfl
    | cons i r =>
      have hi : i ∈ Region.ready .any ops listed := by rw [hr]; exact List.mem_cons_self ..
      obtain ⟨h1, o, ho, _⟩ := mem_ready.1 hi
      have hlt : i < ops.size := (Array.getElem?_eq_some_iff.1 ho).1
      have := hall i hlt
      simp [Array.getD, hsz, hlt] at h1 this
      rw [h1] at this; cases this
  | succ fuel ih =>
    intro listed a w σ s steps L hsz hu hdown h
    have ready_of : ∀ i, i < ops.size → listed.getD i false = false → (∀ j, j < i → listed.getD j false = true) → i ∈ Region.ready .any ops listed := fun i hi hno hb => by
      refine mem_ready.2 ⟨by simp [Array.getD, hsz, hi] at hno ⊢; exact hno, ops[i], by simp [hi], fun e he hbi => ?_⟩
      exact hb _ (htopo i hi _ (hdir i ops[i] (by simp [hi]) e he hbi))
    refine ⟨fun hnil => ?_, fun i hi => ?_⟩
    · refine fin listed a w σ s steps L h fun k hk => ?_
      cases hl : listed.getD k false with
      | true => rfl
      | false =>
        obtain ⟨k', h1, h2, h3⟩ := least (p := fun k => listed.getD k false = false) ops.size ⟨k, hk, hl⟩
        have := ready_of k' h1 h2 fun j hj => by
          cases hlj : listed.getD j false with
          | true => rfl
          | false => exact absurd hlj (h3 j hj)
        rw [hnil] at this; cases this
    · obtain ⟨hno, o, ho, hedges⟩ := mem_ready.1 hi
      have hlt : i < ops.size := (Array.getElem?_eq_some_iff.1 ho).1
      have hno' : listed.getD i false = false := by simp [Array.getD, hsz, hlt] at hno ⊢; exact hno
      have hdl : ∀ j ∈ dirs ops i, listed.getD j false = true := fun j hj => by
        obtain ⟨o', ho', e, he, hb, rfl⟩ := hdirI i j hj
        rw [ho] at ho'; cases ho'
        exact hedges e he hb
      have hpl : ∀ j ∈ pr pre i, listed.getD j false = true := fun j hj => by
        rcases hpre i hlt j hj with h | ⟨e, he, h⟩
        · exact hdl j h
        · exact hdown e (Nat.lt_trans (htopo i hlt e he) hlt) (hdl e he) j h
      have hset : ∀ k, (listed.setIfInBounds i true).getD k false = if k = i then true else listed.getD k false := fun k => getD_set _ _ _ (by omega)
      have hdown' : ∀ k, k < ops.size → (listed.setIfInBounds i true).getD k false = true → ∀ j ∈ pr pre k, (listed.setIfInBounds i true).getD j false = true := fun k hk hl j hj => by
        rw [hset] at hl ⊢
        split
        · rfl
        · by_cases e : k = i
          · subst e; exact hpl j hj
          · rw [if_neg e] at hl; exact hdown k hk hl j hj
      have hu' : unl (listed.setIfInBounds i true) ops.size ≤ fuel := by
        have := unl_set (by omega) hno' ops.size; rw [if_pos hlt] at this; omega
      rcases h.cov i hlt hno' with hp | ⟨x, hx, hxi⟩
      · cases steps with
        | nil => cases hp
        | cons q r =>
          obtain ⟨j, cl, opn⟩ := q
          have hck := h.chk
          simp only [chkSt, Bool.and_eq_true, decide_eq_true_eq, List.all_eq_true, List.contains_iff_mem] at hck
          obtain ⟨⟨⟨⟨⟨ck1, ck2⟩, ck3⟩, ck4⟩, ck5⟩, ck6⟩ := hck
          have hj := h.unlisted j (List.mem_cons_self ..)
          have hij : i = j := by
            rcases List.mem_cons.1 hp with e | hp
            · exact e
            · have : j ∈ pr pre i := by
                rcases List.mem_append.1 hp with hp | hp
                · obtain ⟨q, hq, rfl⟩ := List.mem_map.1 hp; exact ck4 q hq
                · exact ck3 i hp
              have := hpl j this
              rw [hj.2] at this; cases this
          subst hij
          obtain ⟨hev, o', ho', hg, hwo⟩ := h.wt
          rw [ho] at ho'; cases ho'
          have hclr : Rel E σ (clo (L.filter fun x => cl.contains x.z) s) a w := clo_rel _ s h.rel fun x hx => by
            obtain ⟨hxL, hxc⟩ := List.mem_filter.1 hx
            exact ⟨(hev x hxL).1, h.val x hxL (hpl _ (ck2 _ (by simpa using hxc)))⟩
          have hnod := h.nod
          simp only [pend, List.nodup_cons, List.nodup_append] at hnod
          obtain ⟨hn1, hn2, hn3, hn4⟩ := hnod
          refine wpOp_of hclr ho hg (Oper.wp_mono (fun a' w' hk => ?_) (wp_frame (Wo_sound (K := fun a' w' => ∃ σ' s', (∃ vs : List V, vs.length = opn.length ∧ Wt P E.H.length ops pre r (stay cl L ++ opnd opn vs) F (anyL (stay cl L ++ opnd opn vs) s')) ∧ Rel E σ' s' a' w') (Q := Q) hclr hwo fun σ' s' a' w' e hr => ⟨σ', s', e, hr⟩)))
          obtain ⟨⟨σ', s', ⟨vs, hvs, hwt⟩, hr⟩, hf⟩ := hk
          have hmemL : ∀ x ∈ stay cl L, x ∈ L ∧ x.z ∉ cl := fun x hx => by
            obtain ⟨h1, h2⟩ := List.mem_filter.1 hx
            exact ⟨h1, by simpa using h2⟩
          have hopz := opnd_zd opn vs hvs
          have hmemO : ∀ x ∈ opnd opn vs, x.z ∈ opn.map (·.1) := fun x hx => by
            have : zd x ∈ (opnd opn vs).map zd := List.mem_map.2 ⟨x, hx, rfl⟩
            rw [hopz] at this
            exact List.mem_map.2 ⟨zd x, this, rfl⟩
          have hoz : (opnd opn vs).map (·.z) = opn.map (·.1) := by
            have : ((opnd opn vs).map zd).map (·.1) = opn.map (·.1) := by rw [hopz]
            rwa [List.map_map] at this
          refine ih _ a' w' σ' _ r _ (by simpa using hsz) hu' hdown' ⟨anyL_rel _ s' hr, anyL_any _ s', hwt, ?_, hn3, fun k hk => ?_, fun k hk hl => ?_, fun x hx hl => ?_, ?_, fun x hx => ?_⟩
          · rw [List.map_append, stay_zd, hopz]; exact ck6
          · have h1 := h.unlisted k (List.mem_cons_of_mem _ (List.mem_append_right _ hk))
            refine ⟨h1.1, ?_⟩
            rw [hset, if_neg (fun e : k = i => hn1 (List.mem_append_right _ (by rw [← e]; exact hk)))]; exact h1.2
          · rw [hset] at hl
            split at hl
            · cases hl
            · rename_i hki
              rcases h.cov k hk hl with hp | ⟨x, hx, hxk⟩
              · rcases List.mem_cons.1 hp with e | hp
                · exact absurd e hki
                · rcases List.mem_append.1 hp with hp | hp
                  · rw [← hoz] at hp
                    obtain ⟨x, hx, e⟩ := List.mem_map.1 hp
                    exact .inr ⟨x, List.mem_append_right _ hx, e⟩
                  · exact .inl hp
              · refine .inr ⟨x, List.mem_append_left _ (List.mem_filter.2 ⟨hx, ?_⟩), hxk⟩
                cases hc : cl.contains x.z with
                | false => rfl
                | true =>
                  have := hpl _ (ck2 x.z (by simpa using hc))
                  rw [hxk, hl] at this; cases this
          · rw [hset] at hl
            rcases List.mem_append.1 hx with hx | hx
            · obtain ⟨hxL, hxc⟩ := hmemL x hx
              have hxi : x.z ≠ i := fun e => (h.outz x hxL).1 (by rw [e]; exact List.mem_cons_self ..)
              rw [if_neg hxi] at hl
              rw [hf x.d ?_]
              · exact h.val x hxL hl
              · have := ck5 (zd x) (List.mem_map.2 ⟨x, hxL, rfl⟩)
                simp only [Bool.or_eq_true, List.contains_iff_mem, Bool.not_eq_true', beq_eq_false_iff_ne] at this
                rcases this with h1 | h1
                · exact absurd h1 hxc
                · intro e; apply h1; unfold dsto; rw [ho]; exact e
            · have h1 := hmemO x hx
              have h2 := h.unlisted x.z (List.mem_cons_of_mem _ (List.mem_append_left _ h1))
              have hxi : x.z ≠ i := fun e => hn1 (List.mem_append_left _ (by rw [← e]; exact h1))
              rw [if_neg hxi, h2.2] at hl; cases hl
          · rw [List.map_append, hoz, List.nodup_append]
            refine ⟨?_, hn2, ?_⟩
            · exact (h.nodz.sublist (List.Sublist.map _ (List.filter_sublist)))
            · intro z hz z' hz' e
              obtain ⟨x, hx, rfl⟩ := List.mem_map.1 hz
              exact (h.outz x (hmemL x hx).1).1 (List.mem_cons_of_mem _ (List.mem_append_left _ (e ▸ hz')))
          · rcases List.mem_append.1 hx with hx | hx
            · have h1 := h.outz x (hmemL x hx).1
              exact ⟨fun hp => h1.1 (List.mem_cons_of_mem _ (List.mem_append_right _ hp)), h1.2⟩
            · have h1 := hmemO x hx
              refine ⟨fun hp => hn4 _ h1 _ hp rfl, (h.unlisted x.z (List.mem_cons_of_mem _ (List.mem_append_left _ h1))).1⟩
      · have hML : ∀ y ∈ L.filter (fun y => (pr pre x.z).contains y.z), y ∈ L ∧ y.z ∈ pr pre i := fun y hy => by
          obtain ⟨h1, h2⟩ := List.mem_filter.1 hy
          exact ⟨h1, by rw [← hxi]; simpa using h2⟩
        have hfr : Rel E σ (fillZ pre L x s) a w := clo_rel _ s h.rel fun y hy => ⟨(h.evz y (hML y hy).1).1, h.val y (hML y hy).1 (hpl _ (hML y hy).2)⟩
        have hfa : (fillZ pre L x s).put (some x.d) .any = fillZ pre L x s := clo_put (h.any x hx) fun y hy e => by
          have e2 := nodup_inj h.nodd (hML y hy).1 hx e
          have h3 := hpl _ (hML y hy).2
          rw [e2, hxi, hno'] at h3; cases h3
        have hrun := evZ_run (K := wpAny P .any ops Q fuel (listed.setIfInBounds i true)) (Q := Q) hfr hfa (h.evz x hx) fun σ' a' w' hr0 hv hf => by
          have hr : Rel E σ' s a' w' := hr0.unclo fun y hy => h.any y (hML y hy).1
          refine ih _ a' w' σ' s steps L (by simpa using hsz) hu' hdown' ⟨hr, h.any, h.wt, h.chk, h.nod, fun k hk => ?_, fun k hk hl => ?_, fun y hy hl => ?_, h.nodz, h.outz⟩
          · have h1 := h.unlisted k hk
            refine ⟨h1.1, ?_⟩
            rw [hset, if_neg (fun e => (h.outz x hx).1 (by rw [hxi, ← e]; exact hk))]; exact h1.2
          · rw [hset] at hl
            split at hl
            · cases hl
            · exact h.cov k hk hl
          · by_cases e : y.z = x.z
            · have := nodup_inj h.nodz hy hx e
              subst this; exact hv
            · rw [hset, if_neg (by rw [← hxi]; exact e)] at hl
              rw [hf y.d (fun e2 => e (by rw [nodup_inj h.nodd hy hx e2]))]
              exact h.val y hy hl
        obtain ⟨o', ho', hg, hw⟩ := hrun
        rw [hxi] at ho'
        exact wpOp_of h.rel ho' hg hw
end
theorem anyL_get {t : Nat} {v : V} : ∀ (l : List Ls) (s : St), (anyL l s).slots[t]? = some v → v = .any ∨ ((∀ x ∈ l, x.d ≠ t) ∧ s.slots[t]? = some v)
  | [], s, h => .inr ⟨fun x hx => (by cases hx), h⟩
  | x :: l, s, h => by
    rcases anyL_get l (s.put (some x.d) .any) h with h1 | ⟨h1, h2⟩
    · exact .inl h1
    · simp only [St.put, setn_eq, List.getElem?_set] at h2
      split at h2
      · split at h2
        · cases h2; exact .inl rfl
        · cases h2
      · rename_i hne
        refine .inr ⟨fun y hy => ?_, h2⟩
        rcases List.mem_cons.1 hy with rfl | hy
        · exact hne
        · exact h1 y hy
theorem anyL_heap : ∀ (l : List Ls) (s : St), (anyL l s).heap = s.heap
  | [], s => rfl
  | x :: l, s => (anyL_heap l (s.put (some x.d) .any)).trans (put_heap _ _ _)
theorem anyL_len : ∀ (l : List Ls) (s : St), (anyL l s).slots.length = s.slots.length
  | [], s => rfl
  | x :: l, s => (anyL_len l (s.put (some x.d) .any)).trans (by simp only [St.put, setn_length])
def isMv : Option Oper → Bool
  | some { op := .move _, guard := none, .. } => true
  | _ => false
def chkL (ops : Array Oper) (pre : List (List Nat)) (N : Nat) (Z0 Z1 : List (Nat × Tmp)) (steps : List Step) : Bool :=
  chkPre ops pre && chkTopo ops && chkSlots ops pre N && decide (N ≤ ops.size) &&
  Z0.all (fun q => decide (q.1 < N) && (dsto ops q.1 == some q.2) && isMv ops[q.1]? && (List.range N).all fun k => k == q.1 || !(dsto ops k == some q.2)) &&
  Z1.all (fun q => decide (N ≤ q.1) && decide (q.1 < ops.size) && (List.range N).all fun k => (Z0.map (·.1)).contains k || (pr pre q.1).contains k) &&
  (pend steps).all (fun j => decide (N ≤ j) && decide (j < ops.size) && !(Z1.map (·.1)).contains j && (List.range N).all fun k => (Z0.map (·.1)).contains k || (pr pre j).contains k) &&
  decide (pend steps).Nodup && decide ((Z0 ++ Z1).map (·.1)).Nodup && chkSt pre ops steps (Z0 ++ Z1) &&
  (List.range ops.size).all fun k => decide (k < N) || (Z1.map (·.1)).contains k || (pend steps).contains k
def ls0 (Z0 : List (Nat × Tmp)) (s : St) : List Ls := Z0.map fun q => ⟨q.1, q.2, nth s.slots q.2⟩
def DwL (P : Program) (n0 : Nat) (ops : Array Oper) (F : St → Prop) (s : St) : Prop :=
  ∃ (pre : List (List Nat)) (N : Nat) (Z0 Z1 : List (Nat × Tmp)) (steps : List Step), chkL ops pre N Z0 Z1 steps = true ∧
    Wm P ops pre 0 (ops.toList.take N) [] (fun s' => ∃ vs : List V, vs.length = Z1.length ∧ Wt P n0 ops pre steps (ls0 Z0 s' ++ opnd Z1 vs) F (anyL (ls0 Z0 s' ++ opnd Z1 vs) s')) s
section
variable {P : Program} {ops : Array Oper} {pre : List (List Nat)} {N : Nat} {tl : List Tm} {st : Nat → St}
theorem mkS_slot (h : Line P ops pre N tl st) {S : Nat → Bool} {t : Nat} (ht : t < (st 0).slots.length) (hS : ∀ k, k < N → dsto ops k = some t → S k = true) : nth (mkS ops N tl st S).slots t = nth (st N).slots t := by
  rw [mkS_nth S t ht, h.slotsAt t ht N (Nat.le_refl _)]
  refine last_congr N fun k hk => ?_
  unfold on
  split
  · rfl
  · rename_i hn
    unfold vAt
    rw [if_neg (fun e => hn (hS k hk e))]
theorem mkS_hp (h : Line P ops pre N tl st) {S : Nat → Bool} (hS : ∀ k, k < N → S k = false → bk tl k = none) : (mkS ops N tl st S).heap = (st N).heap := by
  apply List.ext_getElem?
  intro idx
  rcases Nat.lt_or_ge idx (st N).heap.length with hl | hl
  · have h1 := h.heapAt idx N (Nat.le_refl _)
    have e : last N (on S (bAt tl idx)) ((st 0).heap.getD idx deadB) = last N (bAt tl idx) ((st 0).heap.getD idx deadB) := last_congr N fun k hk => by
      unfold on
      split
      · rfl
      · rename_i hn
        unfold bAt
        rw [hS k hk (by simpa using hn)]; rfl
    rw [mkS_heap S idx hl, e, ← h1]
    simp [List.getD, hl]
  · rw [List.getElem?_eq_none (by rw [mkS_len]; exact hl), List.getElem?_eq_none hl]
theorem Line.mv (h : Line P ops pre N tl st) {z : Nat} (hz : z < N) (hm : isMv ops[z]? = true) : bk tl z = none := by
  obtain ⟨o, rec, h1, _, _, hb, _, hst⟩ := h.at_ hz
  rw [h1] at hm
  rw [hb]
  unfold isMv at hm
  split at hm
  · rename_i o' y heq
    cases heq
    generalize st (z + 1) = s1 at hst
    cases hst with
    | store hg hop hs hq hwr hno => cases hop
    | new hg hn hq hno => simp [newV] at hn
    | skip _ => rfl
    | pure _ _ _ _ => rfl
    | load _ _ _ _ _ _ _ => rfl
    | slc _ _ _ _ _ _ _ _ => rfl
    | cnv _ _ _ _ _ _ _ => rfl
    | call _ _ _ _ _ _ _ _ => rfl
  · cases hm
end
theorem drawLawL {P : Program} (hm : P.follows .mixedOrders = true) : DrawLaw P (DwL P) := by
  intro id ops E F Q σ s a w hrel hD hQ
  obtain ⟨pre, N, Z0, Z1, steps, hchk, hWm⟩ := hD
  simp only [chkL, Bool.and_eq_true, decide_eq_true_eq, List.all_eq_true, List.mem_range, Bool.or_eq_true, Bool.not_eq_true', List.contains_iff_mem, beq_iff_eq, beq_eq_false_iff_ne] at hchk
  obtain ⟨⟨⟨⟨⟨⟨⟨⟨⟨⟨cPre, cTopo⟩, cSlots⟩, hN⟩, c0⟩, c1⟩, cP⟩, cPn⟩, cZn⟩, cS⟩, cCov⟩ := hchk
  have htk : (ops.toList.take N).length = N := by rw [List.length_take, Array.length_toList]; omega
  obtain ⟨tl, st, hlen, hst0, hF, hsteps⟩ := Wm_line P ops pre (ops.toList.take N) 0 [] _ s hWm (fun j hj => by
    rw [htk] at hj; rw [List.getElem?_take, if_pos hj, Nat.zero_add]; simp)
  rw [htk] at hF hlen hsteps
  have hL : Line P ops pre N tl st := ⟨hlen, fun i hi => by
    obtain ⟨o, rec, h1, h2, h3⟩ := hsteps i hi
    simp only [Nat.zero_add, List.nil_append] at h1 h3
    exact ⟨o, rec, h1, h2, h3⟩⟩
  have hw0 : AWf (st 0) := by rw [hst0]; exact AWf_of_rel hrel
  have hn0 : E.H.length ≤ (st 0).heap.length := by rw [hst0]; exact hrel.len
  have hdir : ∀ (i : Nat) (o : Oper), ops[i]? = some o → ∀ e ∈ o.after, Region.binds .any e = true → e.on ∈ dirs ops i := fun i o ho e he hb => by
    unfold dirs; rw [ho]; exact List.mem_map.2 ⟨e, List.mem_filter.2 ⟨by simpa using he, hb⟩, rfl⟩
  have hdirI : ∀ (i : Nat), ∀ j ∈ dirs ops i, ∃ o, ops[i]? = some o ∧ ∃ e ∈ o.after, Region.binds .any e = true ∧ e.on = j := fun i j hj => by
    unfold dirs at hj
    split at hj
    · rename_i o ho
      obtain ⟨e, he, rfl⟩ := List.mem_map.1 hj
      obtain ⟨h1, h2⟩ := List.mem_filter.1 he
      exact ⟨o, ho, e, by simpa using h1, h2, rfl⟩
    · cases hj
  have hpre : ∀ i, i < ops.size → ∀ j ∈ pr pre i, j ∈ dirs ops i ∨ ∃ e ∈ dirs ops i, j ∈ pr pre e := fun i hi j hj => by
    have := List.all_eq_true.1 (List.all_eq_true.1 cPre i (List.mem_range.2 hi)) j hj
    simp only [Bool.or_eq_true, List.contains_iff_mem, List.any_eq_true] at this
    exact this
  have htopo : ∀ i, i < ops.size → ∀ j ∈ dirs ops i, j < i := fun i hi j hj => by
    have := List.all_eq_true.1 (List.all_eq_true.1 cTopo i (List.mem_range.2 hi)) j hj
    simpa using this
  obtain ⟨vs, hvs, hWt⟩ := hF
  -- the second phase begins when the main part has come up, but for what stands loose
  have enter : ∀ (fuel : Nat) (listed : Array Bool) (a : Act) (w : World), listed.size = ops.size → unl listed ops.size ≤ fuel →
      (∀ k, k < ops.size → listed.getD k false = true → ∀ j ∈ pr pre k, listed.getD j false = true) → (∀ k, N ≤ k → listed.getD k false = false) → (∀ k, k < N → k ∉ Z0.map (·.1) → listed.getD k false = true) →
      (∃ σ, Rel E σ (mkS ops N tl st fun k => listed.getD k false) a w) → wpAny P .any ops Q fuel listed a w := by
    intro fuel listed a w hsz hu hdown hlow hmain ⟨σ, hr⟩
    have hz0 : (ls0 Z0 (st N)).map zd = Z0 := by unfold ls0; rw [List.map_map]; exact (List.map_congr_left (fun q _ => rfl)).trans (List.map_id _)
    have hz1 := opnd_zd Z1 vs hvs
    have hzz : (ls0 Z0 (st N) ++ opnd Z1 vs).map zd = Z0 ++ Z1 := by rw [List.map_append, hz0, hz1]
    have hzn : (ls0 Z0 (st N) ++ opnd Z1 vs).map (·.z) = (Z0 ++ Z1).map (·.1) := by rw [← hzz, List.map_map]; rfl
    have hmemz : ∀ x ∈ ls0 Z0 (st N) ++ opnd Z1 vs, (x.z, x.d) ∈ Z0 ++ Z1 := fun x hx => by rw [← hzz]; exact List.mem_map.2 ⟨x, hx, rfl⟩
    have hbk : ∀ k, k < N → listed.getD k false = false → bk tl k = none := fun k hk hl => by
      by_cases hz : k ∈ Z0.map (·.1)
      · obtain ⟨q, hq, rfl⟩ := List.mem_map.1 hz
        exact hL.mv hk (c0 q hq).1.2
      · rw [hmain k hk hz] at hl; cases hl
    have hheap := mkS_hp hL (S := fun k => listed.getD k false) hbk
    have hslen : (mkS ops N tl st fun k => listed.getD k false).slots.length = (st 0).slots.length := by simp [mkS]
    have hslN := hL.slotsLen N (Nat.le_refl _)
    have hrel2 : Rel E σ (anyL (ls0 Z0 (st N) ++ opnd Z1 vs) (st N)) a w := by
      refine ⟨hr.defers, ?_, fun t v hv => ?_, fun v hv => ?_, ?_, ?_, hr.agree, hr.fr, ?_⟩
      · rw [anyL_len, hslN, ← hslen]; exact hr.size
      · rcases anyL_get _ _ hv with h1 | ⟨h1, h2⟩
        · exact .inl h1
        · have ht : t < (st 0).slots.length := by rw [← hslN]; exact (List.getElem?_eq_some_iff.1 h2).1
          have e := mkS_slot hL (S := fun k => listed.getD k false) ht fun k hk hd => by
            by_cases hz : k ∈ Z0.map (·.1)
            · obtain ⟨q, hq, rfl⟩ := List.mem_map.1 hz
              have h3 := (c0 q hq).1.1.2
              rw [h3] at hd
              have h4 : (⟨q.1, q.2, nth (st N).slots q.2⟩ : Ls) ∈ ls0 Z0 (st N) ++ opnd Z1 vs := List.mem_append_left _ (List.mem_map.2 ⟨q, hq, rfl⟩)
              exact absurd (Option.some.inj hd) (h1 _ h4)
            · exact hmain k hk hz
          refine hr.slots t v ?_
          rw [nth_eq, nth_eq, h2] at e
          rw [List.getElem?_eq_getElem (by rw [hslen]; exact ht)] at e ⊢
          simpa using e
      · rw [anyL_heap, ← hheap]
        obtain ⟨t, ht⟩ := List.getElem?_of_mem hv
        rcases anyL_get _ _ ht with h1 | ⟨h1, h2⟩
        · rw [h1]; trivial
        · rw [hheap]; exact (hL.wf hw0 N (Nat.le_refl _)).1 v (List.mem_of_getElem? h2)
      · rw [anyL_heap, ← hheap]; exact hr.heap
      · rw [anyL_heap, ← hheap]; exact hr.len
      · rw [anyL_heap, ← hheap]; exact hr.new
    have hev : ∀ x ∈ ls0 Z0 (st N) ++ opnd Z1 vs, evZ P E.H.length ops x (fillZ pre (ls0 Z0 (st N) ++ opnd Z1 vs) x (anyL (ls0 Z0 (st N) ++ opnd Z1 vs) (st N))) := by
      cases steps with
      | nil => exact hWt.1
      | cons q r => obtain ⟨j, cl, opn⟩ := q; exact hWt.1
    refine phase2 htopo hpre hQ fuel listed a w σ _ steps _ hsz hu hdown ⟨hrel2, anyL_any _ _, hWt, by rw [hzz]; exact cS, cPn, fun k hk => ⟨(cP k hk).1.1.2, hlow k (cP k hk).1.1.1⟩, fun k hk hl => ?_, fun x hx hl => ?_, by rw [hzn]; exact cZn, fun x hx => ?_⟩
    · by_cases hkN : k < N
      · by_cases hz : k ∈ Z0.map (·.1)
        · obtain ⟨q, hq, rfl⟩ := List.mem_map.1 hz
          exact .inr ⟨⟨q.1, q.2, nth (st N).slots q.2⟩, List.mem_append_left _ (List.mem_map.2 ⟨q, hq, rfl⟩), rfl⟩
        · rw [hmain k hkN hz] at hl; cases hl
      · rcases cCov k hk with (h1 | h1) | h1
        · exact absurd h1 hkN
        · right
          have : k ∈ (opnd Z1 vs).map (·.z) := by
            have e : (opnd Z1 vs).map (·.z) = Z1.map (·.1) := by
              have : ((opnd Z1 vs).map zd).map (·.1) = Z1.map (·.1) := by rw [hz1]
              rwa [List.map_map] at this
            rw [e]; exact h1
          obtain ⟨x, hx, e⟩ := List.mem_map.1 this
          exact ⟨x, List.mem_append_right _ hx, e⟩
        · exact .inl h1
    · have h1 := hmemz x hx
      rcases List.mem_append.1 h1 with h1 | h1
      · have h2 := c0 _ h1
        obtain ⟨hlt, hne, hlen', _⟩ := hev x hx
        have hd : x.d < (st 0).slots.length := by unfold fillZ at hlen'; rw [clo_len, anyL_len, hslN] at hlen'; exact hlen'
        have e := mkS_slot hL (S := fun k => listed.getD k false) hd fun k hk hdk => by
          rcases h2.2 k hk with h3 | h3
          · rw [h3]; exact hl
          · exact absurd hdk h3
        have hxv : x.v = nth (st N).slots x.d := by
          rcases List.mem_append.1 hx with hx | hx
          · obtain ⟨q, _, rfl⟩ := List.mem_map.1 hx; rfl
          · have h5 : (x.z, x.d) ∈ Z1 := by rw [← hz1]; exact List.mem_map.2 ⟨x, hx, rfl⟩
            have h6 := (c1 _ h5).1.1
            have h7 := h2.1.1.1
            exact absurd h7 (by simp at h6 ⊢; omega)
        have h8 : (mkS ops N tl st fun k => listed.getD k false).slots[x.d]? = some x.v := by
          rw [nth_eq] at e
          rw [List.getElem?_eq_getElem (by rw [hslen]; exact hd)] at e ⊢
          rw [hxv, ← e]; rfl
        rcases hr.slots _ _ h8 with h9 | h9
        · exact absurd h9 hne
        · rw [h9, conc_congr (fun i hi => hr.agree i hi) _ hlt]
      · rw [hlow x.z (c1 _ h1).1.1] at hl; cases hl
    · have h1 := hmemz x hx
      rcases List.mem_append.1 h1 with h1 | h1
      · have h2 := (c0 _ h1).1.1.1
        exact ⟨fun hp => absurd (cP _ hp).1.1.1 (by simp at h2; omega), by simp at h2; omega⟩
      · refine ⟨fun hp => ?_, (c1 _ h1).1.2⟩
        have h5 := (cP _ hp).1.2
        have h6 : (Z1.map (·.1)).contains x.z = true := List.contains_iff_mem.2 (List.mem_map.2 ⟨_, h1, rfl⟩)
        rw [h5] at h6; cases h6
  have main : ∀ (fuel : Nat) (listed : Array Bool) (a : Act) (w : World), listed.size = ops.size → unl listed ops.size ≤ fuel →
      (∀ k, k < ops.size → listed.getD k false = true → ∀ j ∈ pr pre k, listed.getD j false = true) → (∀ k, N ≤ k → listed.getD k false = false) →
      (∃ σ, Rel E σ (mkS ops N tl st fun k => listed.getD k false) a w) → wpAny P .any ops Q fuel listed a w := by
    intro fuel
    induction fuel with
    | zero =>
      intro listed a w hsz hu hdown hlow hex
      have hall := unl_zero (l := listed) ops.size (by omega)
      exact enter 0 listed a w hsz hu hdown hlow (fun k hk _ => hall k (by omega)) hex
    | succ fuel ih =>
      intro listed a w hsz hu hdown hlow hex
      by_cases hmain : ∀ k, k < N → k ∉ Z0.map (·.1) → listed.getD k false = true
      · exact enter (fuel + 1) listed a w hsz hu hdown hlow hmain hex
      have ready_of : ∀ i, i < ops.size → listed.getD i false = false → (∀ j, j < i → listed.getD j false = true) → i ∈ Region.ready .any ops listed := fun i hi hno hb => by
        refine mem_ready.2 ⟨by simp [Array.getD, hsz, hi] at hno ⊢; exact hno, ops[i], by simp [hi], fun e he hbi => ?_⟩
        exact hb _ (htopo i hi _ (hdir i ops[i] (by simp [hi]) e he hbi))
      refine ⟨fun hnil => ?_, fun i hi => ?_⟩
      · refine absurd (fun k hk _ => ?_) hmain
        cases hl : listed.getD k false with
        | true => rfl
        | false =>
          obtain ⟨k', h1, h2, h3⟩ := least (p := fun k => listed.getD k false = false) ops.size ⟨k, by omega, hl⟩
          have := ready_of k' h1 h2 fun j hj => by
            cases hlj : listed.getD j false with
            | true => rfl
            | false => exact absurd hlj (h3 j hj)
          rw [hnil] at this; cases this
      · obtain ⟨hno, o, ho, hedges⟩ := mem_ready.1 hi
        have hlt : i < ops.size := (Array.getElem?_eq_some_iff.1 ho).1
        have hno' : listed.getD i false = false := by simp [Array.getD, hsz, hlt] at hno ⊢; exact hno
        have hdl : ∀ j ∈ dirs ops i, listed.getD j false = true := fun j hj => by
          obtain ⟨o', ho', e, he, hb, rfl⟩ := hdirI i j hj
          rw [ho] at ho'; cases ho'
          exact hedges e he hb
        have hpl : ∀ j ∈ pr pre i, listed.getD j false = true := fun j hj => by
          rcases hpre i hlt j hj with h | ⟨e, he, h⟩
          · exact hdl j h
          · exact hdown e (Nat.lt_trans (htopo i hlt e he) hlt) (hdl e he) j h
        have hiN : i < N := by
          apply Nat.lt_of_not_le
          intro hge
          apply hmain
          intro k hk hkz
          have hk2 : k ∈ pr pre i := by
            rcases cCov i hlt with (h1 | h1) | h1
            · omega
            · obtain ⟨q, hq, rfl⟩ := List.mem_map.1 h1
              exact ((c1 q hq).2 k hk).resolve_left hkz
            · exact ((cP i h1).2 k hk).resolve_left hkz
          exact hpl k hk2
        have hdown' : ∀ k, k < ops.size → (listed.setIfInBounds i true).getD k false = true → ∀ j ∈ pr pre k, (listed.setIfInBounds i true).getD j false = true := fun k hk hl j hj => by
          rw [getD_set _ _ _ (by omega)] at hl ⊢
          split
          · rfl
          · by_cases e : k = i
            · subst e; exact hpl j hj
            · rw [if_neg e] at hl; exact hdown k hk hl j hj
        have hu' : unl (listed.setIfInBounds i true) ops.size ≤ fuel := by
          have := unl_set (by omega) hno' ops.size; rw [if_pos hlt] at this; omega
        obtain ⟨σ, hr⟩ := hex
        have hup : Up pre N (fun k => listed.getD k false) i := ⟨hiN, hno', fun k hk hl j hj => hdown k (by omega) hl j hj, hpl⟩
        obtain ⟨g, hg, ht, hf⟩ := step_any hL hw0 cSlots hn0 hup ho (AWf_of_rel hr)
        have eS : orS (fun k => listed.getD k false) i = fun k => (listed.setIfInBounds i true).getD k false := by
          funext k; rw [getD_set _ _ _ (by omega)]; rfl
        have good' : ∀ (σ : Nat → Loc) (s : St) (a' : Act) (w' : World), Weak E.H.length s (mkS ops N tl st (orS (fun k => listed.getD k false) i)) → Rel E σ s a' w' → wpAny P .any ops Q fuel (listed.setIfInBounds i true) a' w' := fun σ s a' w' hwk hr' => by
          obtain ⟨σ2, h2⟩ := hwk E σ a' w' rfl hr'
          rw [eS] at h2
          refine ih _ a' w' (by simpa using hsz) hu' hdown' (fun k hk => ?_) ⟨σ2, h2⟩
          rw [getD_set _ _ _ (by omega), if_neg (by omega)]; exact hlow k hk
        have hwant := guardV_sound hr hg
        unfold wpOp
        rw [ho]
        dsimp only
        rw [hwant]
        cases g
        · simp only [Bool.false_eq_true, if_false]
          exact good' σ _ _ _ (hf rfl) (hr.put o.dst (.t []) (by simp [V.lt, Go.Sx.lts]))
        · simp only [if_true]
          left
          exact Wo_sound hr (ht rfl) fun σ' s' a' w' hF' hr' => good' σ' s' a' w' hF' hr'
  have hrel' : Rel E σ s a { w with drawn := w.drawn + 1 } := hrel.world (fun _ _ => rfl) (Nat.le_refl _) (hrel.heap.keep (fun _ _ => rfl) (Nat.le_refl _) (fun _ _ _ _ => rfl)) rfl rfl rfl (Nat.le_refl _) (fun _ _ => .inr rfl) hrel.new
  refine wp_region_any hm ?_
  refine main ops.size _ a _ (by simp) (unl_le _ _) (fun k hk hl => ?_) (fun k _ => ?_) ⟨σ, ?_⟩
  · exfalso; simp [Array.getD] at hl
  · simp [Array.getD]
  · have hS : ∀ k, (Array.replicate ops.size false).getD k false = false := fun k => by simp [Array.getD]
    have hle := hL.heapLen 0 N (Nat.zero_le _) (Nat.le_refl _)
    have e : (mkS ops N tl st fun k => (Array.replicate ops.size false).getD k false) = ⟨(st 0).slots, (st 0).heap ++ List.replicate ((st N).heap.length - (st 0).heap.length) deadB⟩ := by
      have hnone : ∀ {α : Type} (f : Nat → Option α) (x : α), last N (on (fun k => (Array.replicate ops.size false).getD k false) f) x = x := fun f x => by
        rw [last_below 0 N (Nat.zero_le _) fun k _ _ => on_none (.inl (hS k))]; rfl
      refine St.ext' ?_ ?_
      · apply List.ext_getElem?
        intro t
        simp only [mkS, hnone, List.getElem?_map]
        rcases Nat.lt_or_ge t (st 0).slots.length with ht | ht
        · rw [List.getElem?_range ht, Option.map_some, nth_eq, List.getElem?_eq_getElem ht]; rfl
        · rw [List.getElem?_eq_none (by simpa using ht), List.getElem?_eq_none ht]; rfl
      · apply List.ext_getElem?
        intro t
        simp only [mkS, hnone, List.getElem?_map]
        rcases Nat.lt_or_ge t (st 0).heap.length with ht | ht
        · rw [List.getElem?_range (by omega), List.getElem?_append_left ht, List.getElem?_eq_getElem ht]; simp [List.getD, ht]
        · rw [List.getElem?_append_right ht, List.getElem?_replicate]
          rcases Nat.lt_or_ge t (st N).heap.length with ht2 | ht2
          · rw [List.getElem?_range ht2, if_pos (by omega)]; simp [List.getD, List.getElem?_eq_none ht]
          · rw [List.getElem?_eq_none (by simpa using ht2), if_neg (by omega)]; rfl
    rw [e, hst0]
    exact hrel'.deads _
section
variable {E : En} {σ σ' : Nat → Loc} {s s' : St} {a a' : Act} {w w' : World}
theorem Rel.rebase (h : Rel E σ s a w) : Rel ⟨σ, s.heap, w⟩ σ s a w :=
  ⟨h.defers, h.size, h.slots, h.lt, h.heap, Nat.le_refl _, fun _ _ => rfl, Fr.refl _ _ _, fun i b hb hm => .inr ⟨i, b, hb, hm, rfl⟩⟩
theorem Rel.trans (h : Rel E σ s a w) (h2 : Rel ⟨σ, s.heap, w⟩ σ' s' a' w') : Rel E σ' s' a' w' := by
  refine ⟨h2.defers, h2.size, h2.slots, h2.lt, h2.heap, Nat.le_trans h.len h2.len, fun i hi => (h2.agree i (Nat.lt_of_lt_of_le hi h.len)).trans (h.agree i hi), ?_, fun i b hb hm => ?_⟩
  · refine ⟨h2.fr.os.trans h.fr.os, h2.fr.tape.trans h.fr.tape, h2.fr.output.trans h.fr.output, Nat.le_trans h.fr.size h2.fr.size, fun k hk hno => ?_⟩
    rw [h2.fr.block k (Nat.lt_of_lt_of_le hk h.fr.size) fun i b hb hm e => ?_]
    · exact h.fr.block k hk hno
    · rcases h.new i b hb hm with h1 | ⟨i0, b0, g1, g2, g3⟩
      · exact absurd e (by show ¬ (σ i).blk = k; omega)
      · exact hno i0 b0 g1 g2 (g3.trans e)
  · rcases h2.new i b hb hm with h1 | ⟨i0, b0, g1, g2, g3⟩
    · exact .inl (Nat.le_trans h.fr.size h1)
    · rw [← g3]; exact h.new i0 b0 g1 g2
end
theorem drawLawR {P : Program} (hm : P.follows .mixedOrders = true) : DrawLaw P (fun _ ops F s => DwL P s.heap.length ops F s) := by
  intro id ops E F Q σ s a w hrel hD hQ
  exact drawLawL hm id ops ⟨σ, s.heap, w⟩ F Q σ s a w hrel.rebase hD fun σ' s' a' w' hF hr => hQ σ' s' a' w' hF (hrel.trans hr)
def Dw (P : Program) (n0 : Nat) (ops : Array Oper) (F : St → Prop) (s : St) : Prop := Dw0 P n0 ops F s ∨ DwL P n0 ops F s ∨ DwL P s.heap.length ops F s
theorem drawLaw {P : Program} (hm : P.follows .mixedOrders = true) : DrawLaw P (Dw P) := by
  intro id ops E F Q σ s a w hr hD hQ
  rcases hD with h | h | h
  · exact drawLaw0 hm id ops E F Q σ s a w hr h hQ
  · exact drawLawL hm id ops E F Q σ s a w hr h hQ
  · exact drawLawR hm id ops E F Q σ s a w hr h hQ
end Go.Sx
namespace Go.Sx
open Go.RowKit

inductive Kt where
  | seq (c : Code)
  | blk (id : Nat)
  | lp (R : St → Prop) (μ : St → Nat) (m : Nat)
  | fn (G : St → Prop)

structure Cx where
  n0 : Nat
  Q : Exit → St → Prop

def den (P : Program) (n0 : Nat) : List Kt → (Exit → St → Prop) → Exit → St → Prop
  | [], Q => Q
  | .seq c :: k, Q => fun e s => match e with
    | .normal => W P n0 (Dw P n0) c (den P n0 k Q) s
    | e => den P n0 k Q e s
  | .blk id :: k, Q => fun e s => match e with
    | .exit id' => if id' = id then den P n0 k Q .normal s else den P n0 k Q (.exit id') s
    | e => den P n0 k Q e s
  | .lp R μ m :: k, Q => fun e s => match e with
    | .normal => ∃ s2, Weak n0 s s2 ∧ R s2 ∧ μ s2 < m
    | e => den P n0 k Q e s
  | .fn G :: k, Q => fun e s => match e with
    | .normal => G s
    | e => den P n0 k Q e s

def WK (P : Program) (x : Cx) (k : List Kt) (c : Code) (s : St) : Prop := W P x.n0 (Dw P x.n0) c (den P x.n0 k x.Q) s
def EK (P : Program) (x : Cx) (k : List Kt) (e : Exit) (s : St) : Prop := den P x.n0 k x.Q e s
def LK (P : Program) (x : Cx) (k : List Kt) (ops : Array Oper) (l : List Oper) (s : St) : Prop := Wl P x.n0 ops l (den P x.n0 k x.Q .normal) s
def DK (P : Program) (x : Cx) (k : List Kt) (ops : Array Oper) (s : St) : Prop := Dw P x.n0 ops (den P x.n0 k x.Q .normal) s
def CK (P : Program) (x : Cx) (k : List Kt) (a b : Code) (s : St) : V → Prop
  | .v (.bool t) => (t = true → WK P x k a s) ∧ (t = false → WK P x k b s)
  | _ => False
def putS (sl : List V) (d : Option Tmp) (v : V) : List V := match d with | some d => setn sl d v | none => sl
def OK (P : Program) (x : Cx) (k : List Kt) (ops : Array Oper) (r : List Oper) (d : Option Tmp) : Option (Prop × V × St) → Prop
  | some (p, v, s') => p ∧ LK P x k ops r ⟨putS s'.slots d v, s'.heap⟩
  | none => False
def RK (P : Program) (x : Cx) (k : List Kt) (ops : Array Oper) (r : List Oper) (d : Option Tmp) (s : St) : Option (Prop × V) → Prop
  | some (p, v) => p ∧ LK P x k ops r ⟨putS s.slots d v, s.heap⟩
  | none => False
def SK (P : Program) (x : Cx) (k : List Kt) (ops : Array Oper) (r : List Oper) (d : Option Tmp) (args : List V) (s : St) : V → Prop
  | .f n cs => args.all V.solid = true ∧ Cal P n (args ++ cs) s.heap fun v H' => LK P x k ops r ⟨putS s.slots d v, H'⟩
  | _ => False
def HK (P : Program) (x : Cx) (k : List Kt) (ops : Array Oper) (r : List Oper) (d : Option Tmp) (op : Op) (ty : TypeId) (pos : String) (af : Array Edge) (s : St) : Option Bool → Prop
  | some g => (g = true → LK P x k ops ({ dst := d, op := op, type := ty, pos := pos, after := af, guard := none } :: r) s) ∧ (g = false → LK P x k ops r ⟨putS s.slots d (.t []), s.heap⟩)
  | none => False

theorem put_putS (s : St) (d : Option Tmp) (v : V) : s.put d v = ⟨putS s.slots d v, s.heap⟩ := by
  unfold St.put putS; split <;> rfl

section
variable (P : Program) (x : Cx) (k : List Kt) (ops : Array Oper) (r : List Oper) (d : Option Tmp) (ty : TypeId) (pos : String) (af : Array Edge) (sl : List V) (hp : List Blk) (s : St)

theorem WK_seq (a b : Code) : WK P x k (.seq a b) s = WK P x (.seq b :: k) a s := rfl
theorem WK_skip : WK P x k .skip s = EK P x k .normal s := rfl
theorem WK_ret : WK P x k .ret s = EK P x k .ret s := rfl
theorem WK_exit (id : Nat) : WK P x k (.exit id) s = EK P x k (.exit id) s := rfl
theorem WK_block (id : Nat) (c : Code) : WK P x k (.block id c) s = WK P x (.blk id :: k) c s := rfl
theorem WK_cond (c : Operand) (a b : Code) : WK P x k (.cond c a b) ⟨sl, hp⟩ = CK P x k a b ⟨sl, hp⟩ (ev sl c) := by
  unfold WK W
  cases h : ev sl c with
  | v y => cases y <;> rfl
  | _ => rfl
theorem WK_region (id : Nat) (l : List Oper) : WK P x k (.region id ⟨l⟩ false) s = LK P x k ⟨l⟩ l s := rfl
theorem CK_bool (t : Bool) (a b : Code) : CK P x k a b s (.v (.bool t)) = ((t = true → WK P x k a s) ∧ (t = false → WK P x k b s)) := rfl

theorem EK_seq_n (c : Code) : EK P x (.seq c :: k) .normal s = WK P x k c s := rfl
theorem EK_seq_r (c : Code) : EK P x (.seq c :: k) .ret s = EK P x k .ret s := rfl
theorem EK_seq_e (c : Code) (id : Nat) : EK P x (.seq c :: k) (.exit id) s = EK P x k (.exit id) s := rfl
theorem EK_blk_n (id : Nat) : EK P x (.blk id :: k) .normal s = EK P x k .normal s := rfl
theorem EK_blk_r (id : Nat) : EK P x (.blk id :: k) .ret s = EK P x k .ret s := rfl
theorem EK_blk_e (id id' : Nat) : EK P x (.blk id :: k) (.exit id') s = if id' = id then EK P x k .normal s else EK P x k (.exit id') s := rfl
theorem EK_lp_r (R : St → Prop) (μ : St → Nat) (m : Nat) : EK P x (.lp R μ m :: k) .ret s = EK P x k .ret s := rfl
theorem EK_lp_e (R : St → Prop) (μ : St → Nat) (m : Nat) (id : Nat) : EK P x (.lp R μ m :: k) (.exit id) s = EK P x k (.exit id) s := rfl
theorem EK_fn (G : St → Prop) : EK P x (.fn G :: k) .normal s = G s := rfl
theorem EK_lp_n {R : St → Prop} {μ : St → Nat} {m : Nat} {s : St} (s2 : St) (h : Weak x.n0 s s2) (hR : R s2) (hm : μ s2 < m) : EK P x (.lp R μ m :: k) .normal s := ⟨s2, h, hR, hm⟩
theorem WK_loop {c : Code} {s : St} (R : St → Prop) (μ : St → Nat) (s0 : St) (h0 : Weak x.n0 s s0) (hR : R s0) (h : ∀ s1, R s1 → WK P x (.lp R μ (μ s1) :: k) c s1) : WK P x k (.loop c) s := by
  refine ⟨R, μ, ⟨s0, h0, hR⟩, fun s1 h1 => ?_⟩
  have := h s1 h1
  exact this

theorem LK_nil : LK P x k ops [] s = EK P x k .normal s := rfl
theorem LK_any (op : Op) (hne : ∀ f xs ats, op ≠ .call { callee := .value f, args := xs, argTypes := ats }) :
    LK P x k ops ({ dst := d, op := op, type := ty, pos := pos, after := af, guard := none } :: r) s = OK P x k ops r d (opV P x.n0 s op) := by
  unfold LK
  rw [Wl]
  simp only [guardV, forall_const, false_implies, and_true, Bool.true_eq_false]
  unfold Wo
  split
  · rename_i f xs ats h; exact absurd h (hne f xs ats)
  · split
    · rename_i h; rw [h]; simp only [OK, put_putS]; rfl
    · rename_i h; rw [h]; rfl
theorem LK_call (f : Operand) (xs : List Operand) (ats : Array TypeId) :
    LK P x k ops ({ dst := d, op := .call { callee := .value f, args := ⟨xs⟩, argTypes := ats }, type := ty, pos := pos, after := af, guard := none } :: r) ⟨sl, hp⟩ = SK P x k ops r d (xs.map (ev sl)) ⟨sl, hp⟩ (ev sl f) := by
  unfold LK
  rw [Wl]
  simp only [guardV, forall_const, false_implies, and_true, Bool.true_eq_false]
  unfold Wo
  simp only
  split
  · rename_i h; rw [h]; simp only [SK, put_putS]; rfl
  · rename_i h
    unfold SK
    split
    · rename_i h1; exact absurd h1 (h _ _)
    · rfl
theorem LK_guard (op : Op) (g : Nat × Bool) :
    LK P x k ops ({ dst := d, op := op, type := ty, pos := pos, after := af, guard := some g } :: r) ⟨sl, hp⟩ = HK P x k ops r d op ty pos af ⟨sl, hp⟩ (guardV ops sl { dst := d, op := op, type := ty, pos := pos, after := af, guard := some g }) := by
  unfold LK
  rw [Wl]
  split
  · rename_i b h
    simp only at h
    rw [h]
    simp only [HK, put_putS]
    have e : LK P x k ops ({ dst := d, op := op, type := ty, pos := pos, after := af, guard := none } :: r) ⟨sl, hp⟩ = Wo P x.n0 { dst := d, op := op, type := ty, pos := pos, after := af, guard := none } (Wl P x.n0 ops r (den P x.n0 k x.Q .normal)) ⟨sl, hp⟩ := by
      unfold LK
      rw [Wl]
      simp only [guardV, forall_const, false_implies, and_true, Bool.true_eq_false]
    rw [e]
    rfl
  · rename_i h
    simp only at h
    rw [h]; rfl

theorem OK_some (p : Prop) (v : V) (s' : St) : OK P x k ops r d (some (p, v, s')) = (p ∧ LK P x k ops r ⟨putS s'.slots d v, s'.heap⟩) := rfl
theorem HK_some (op : Op) (g : Bool) : HK P x k ops r d op ty pos af s (some g) = ((g = true → LK P x k ops ({ dst := d, op := op, type := ty, pos := pos, after := af, guard := none } :: r) s) ∧ (g = false → LK P x k ops r ⟨putS s.slots d (.t []), s.heap⟩)) := rfl

theorem SK_ret {args : List V} {s : St} {n : Nat} {cs : List V} {v : V} {H' : List Blk} (hc : Cal P n (args ++ cs) s.heap fun v1 H1 => v1 = v ∧ H1 = H') (hs : args.all V.solid = true) (h : LK P x k ops r ⟨putS s.slots d v, H'⟩) : SK P x k ops r d args s (.f n cs) :=
  ⟨hs, hc.mono fun v1 H1 ⟨e1, e2⟩ => by rw [e1, e2]; exact h⟩

theorem RKop (op : Op) (h : ∀ f xs ats, op ≠ .call { callee := .value f, args := xs, argTypes := ats }) (e : opV P x.n0 ⟨sl, hp⟩ op = (pv P (ev sl) op).map fun q => (q.1, q.2, ⟨sl, hp⟩)) :
    LK P x k ops ({ dst := d, op := op, type := ty, pos := pos, after := af, guard := none } :: r) ⟨sl, hp⟩ = RK P x k ops r d ⟨sl, hp⟩ (pv P (ev sl) op) := by
  rw [LK_any (hne := h), e]
  cases pv P (ev sl) op <;> rfl
theorem RK_some (p : Prop) (v : V) : RK P x k ops r d ⟨sl, hp⟩ (some (p, v)) = (p ∧ LK P x k ops r ⟨putS sl d v, hp⟩) := rfl

theorem LK_move (y : Operand) : LK P x k ops ({ dst := d, op := .move y, type := ty, pos := pos, after := af, guard := none } :: r) ⟨sl, hp⟩ = LK P x k ops r ⟨putS sl d (ev sl y), hp⟩ := by
  rw [RKop P x k ops r d ty pos af sl hp (.move y) (by intro f xs ats e; cases e) rfl]; simp [pv, RK]
theorem LK_assign (y : Operand) : LK P x k ops ({ dst := d, op := .assign y, type := ty, pos := pos, after := af, guard := none } :: r) ⟨sl, hp⟩ = LK P x k ops r ⟨putS sl d (ev sl y), hp⟩ := by
  rw [RKop P x k ops r d ty pos af sl hp (.assign y) (by intro f xs ats e; cases e) rfl]; simp [pv, RK]
theorem LK_pick (c a b : Operand) : LK P x k ops ({ dst := d, op := .pick c a b, type := ty, pos := pos, after := af, guard := none } :: r) ⟨sl, hp⟩ = RK P x k ops r d ⟨sl, hp⟩ (pickB (ev sl a) (ev sl b) (ev sl c)) := by
  rw [RKop P x k ops r d ty pos af sl hp (.pick c a b) (by intro f xs ats e; cases e) rfl]; rfl
theorem LK_nil' (y : Operand) : LK P x k ops ({ dst := d, op := .nilCheck y, type := ty, pos := pos, after := af, guard := none } :: r) ⟨sl, hp⟩ = RK P x k ops r d ⟨sl, hp⟩ (nilV (ev sl y)) := by
  rw [RKop P x k ops r d ty pos af sl hp (.nilCheck y) (by intro f xs ats e; cases e) rfl]; rfl
theorem LK_bin (op : BinOp) (t u : TypeId) (a b : Operand) : LK P x k ops ({ dst := d, op := .binOp op t a b u, type := ty, pos := pos, after := af, guard := none } :: r) ⟨sl, hp⟩ = RK P x k ops r d ⟨sl, hp⟩ (binV P op t (ev sl a) (ev sl b)) := by
  rw [RKop P x k ops r d ty pos af sl hp (.binOp op t a b u) (by intro f xs ats e; cases e) rfl]; rfl
theorem LK_un (op : UnOp) (t : TypeId) (a : Operand) : LK P x k ops ({ dst := d, op := .unOp op t a, type := ty, pos := pos, after := af, guard := none } :: r) ⟨sl, hp⟩ = RK P x k ops r d ⟨sl, hp⟩ (unV op (ev sl a)) := by
  rw [RKop P x k ops r d ty pos af sl hp (.unOp op t a) (by intro f xs ats e; cases e) rfl]; rfl
theorem LK_conv (t u : TypeId) (a : Operand) : LK P x k ops ({ dst := d, op := .convert t u a, type := ty, pos := pos, after := af, guard := none } :: r) ⟨sl, hp⟩ = OK P x k ops r d (cvV P ⟨sl, hp⟩ t u (ev sl a)) := by
  rw [LK_any (hne := by intro f xs ats e; cases e)]; rfl
theorem LK_faddr (t : TypeId) (a : Operand) (f : Nat) : LK P x k ops ({ dst := d, op := .fieldAddr t a f, type := ty, pos := pos, after := af, guard := none } :: r) ⟨sl, hp⟩ = RK P x k ops r d ⟨sl, hp⟩ (fieldAddrV P t f (ev sl a)) := by
  rw [RKop P x k ops r d ty pos af sl hp (.fieldAddr t a f) (by intro f xs ats e; cases e) rfl]; rfl
theorem LK_iaddr (t : TypeId) (a b : Operand) : LK P x k ops ({ dst := d, op := .indexAddr t a b, type := ty, pos := pos, after := af, guard := none } :: r) ⟨sl, hp⟩ = RK P x k ops r d ⟨sl, hp⟩ (indexAddrV P t (ev sl a) (ev sl b)) := by
  rw [RKop P x k ops r d ty pos af sl hp (.indexAddr t a b) (by intro f xs ats e; cases e) rfl]; rfl
theorem LK_index (t : TypeId) (a b : Operand) : LK P x k ops ({ dst := d, op := .index t a b, type := ty, pos := pos, after := af, guard := none } :: r) ⟨sl, hp⟩ = RK P x k ops r d ⟨sl, hp⟩ (indexV P t (ev sl a) (ev sl b)) := by
  rw [RKop P x k ops r d ty pos af sl hp (.index t a b) (by intro f xs ats e; cases e) rfl]; rfl
theorem LK_extract (a : Operand) (i : Nat) : LK P x k ops ({ dst := d, op := .extract a i, type := ty, pos := pos, after := af, guard := none } :: r) ⟨sl, hp⟩ = RK P x k ops r d ⟨sl, hp⟩ (extractV i (ev sl a)) := by
  rw [RKop P x k ops r d ty pos af sl hp (.extract a i) (by intro f xs ats e; cases e) rfl]; rfl
theorem LK_len (a : Operand) (t : TypeId) : LK P x k ops ({ dst := d, op := .call { callee := .builtin .len, args := ⟨[a]⟩, argTypes := ⟨[t]⟩ }, type := ty, pos := pos, after := af, guard := none } :: r) ⟨sl, hp⟩ = RK P x k ops r d ⟨sl, hp⟩ (lenV P t (ev sl a)) := by
  rw [RKop P x k ops r d ty pos af sl hp (.call { callee := .builtin .len, args := ⟨[a]⟩, argTypes := ⟨[t]⟩ }) (by intro f xs ats e; cases e) rfl]; rfl
theorem OKr (op : Op) (f : Option (Prop × V)) (h : ∀ f xs ats, op ≠ .call { callee := .value f, args := xs, argTypes := ats }) (e : opV P x.n0 ⟨sl, hp⟩ op = f.map fun q => (q.1, q.2, ⟨sl, hp⟩)) :
    LK P x k ops ({ dst := d, op := op, type := ty, pos := pos, after := af, guard := none } :: r) ⟨sl, hp⟩ = RK P x k ops r d ⟨sl, hp⟩ f := by
  rw [LK_any (hne := h), e]
  cases f <;> rfl
theorem LK_load (t : TypeId) (a : Operand) : LK P x k ops ({ dst := d, op := .load t a, type := ty, pos := pos, after := af, guard := none } :: r) ⟨sl, hp⟩ = RK P x k ops r d ⟨sl, hp⟩ (ldV P hp t (ev sl a)) :=
  OKr P x k ops r d ty pos af sl hp (.load t a) _ (by intro f xs ats e; cases e) rfl
theorem LK_build (t : TypeId) (ps : List (Nat × Operand)) : LK P x k ops ({ dst := d, op := .build t ⟨ps⟩, type := ty, pos := pos, after := af, guard := none } :: r) ⟨sl, hp⟩ = RK P x k ops r d ⟨sl, hp⟩ (buildV P t (ps.map fun q => (q.1, ev sl q.2))) :=
  OKr P x k ops r d ty pos af sl hp (.build t ⟨ps⟩) _ (by intro f xs ats e; cases e) rfl
theorem LK_slice (t : TypeId) (a : Operand) (lo hi mx : Option Operand) : LK P x k ops ({ dst := d, op := .slice t a lo hi mx, type := ty, pos := pos, after := af, guard := none } :: r) ⟨sl, hp⟩ =
    RK P x k ops r d ⟨sl, hp⟩ ((sliceV P (reachTo hp (ev sl a)) t (ev sl a) (lo.map (ev sl)) (hi.map (ev sl)) (mx.map (ev sl))).map fun q => (q.1 ∧ capOk hp (ev sl a), q.2)) := by
  refine OKr P x k ops r d ty pos af sl hp (.slice t a lo hi mx) _ (by intro f xs ats e; cases e) ?_
  simp [opV, slV, Option.map_map, Function.comp_def]
theorem LK_clear (a : Operand) (t : TypeId) : LK P x k ops ({ dst := d, op := .call { callee := .builtin .clear, args := ⟨[a]⟩, argTypes := ⟨[t]⟩ }, type := ty, pos := pos, after := af, guard := none } :: r) ⟨sl, hp⟩ = OK P x k ops r d (clrV P ⟨sl, hp⟩ t (ev sl a)) := by
  rw [LK_any P x k ops r d ty pos af ⟨sl, hp⟩ (.call { callee := .builtin .clear, args := ⟨[a]⟩, argTypes := ⟨[t]⟩ }) (by intro f xs ats e; cases e)]
  rfl
theorem LK_mkf (n : Nat) (cs : List Operand) : LK P x k ops ({ dst := d, op := .makeFunc (.func n) ⟨[]⟩ ⟨cs⟩, type := ty, pos := pos, after := af, guard := none } :: r) ⟨sl, hp⟩ = RK P x k ops r d ⟨sl, hp⟩ (some ((cs.map (ev sl)).all V.solid = true, .f n (cs.map (ev sl)))) :=
  OKr P x k ops r d ty pos af sl hp (.makeFunc (.func n) ⟨[]⟩ ⟨cs⟩) _ (by intro f xs ats e; cases e) rfl

def OS (P : Program) (x : Cx) (k : List Kt) (ops : Array Oper) (r : List Oper) (sl : List V) : Option (Prop × List Blk) → Prop
  | some (p, hp') => p ∧ LK P x k ops r ⟨sl, hp'⟩
  | none => False
theorem OS_some (p : Prop) (hp' : List Blk) : OS P x k ops r sl (some (p, hp')) = (p ∧ LK P x k ops r ⟨sl, hp'⟩) := rfl
theorem LK_store (t : TypeId) (a b : Operand) : LK P x k ops ({ dst := none, op := .store t a b, type := ty, pos := pos, after := af, guard := none } :: r) ⟨sl, hp⟩ = OS P x k ops r sl (stV P hp t (ev sl b) (ev sl a)) := by
  rw [LK_any P x k ops r none ty pos af ⟨sl, hp⟩ (.store t a b) (by intro f xs ats e; cases e)]
  simp only [opV]
  cases stV P hp t (ev sl b) (ev sl a) <;> rfl
def OB (P : Program) (x : Cx) (k : List Kt) (ops : Array Oper) (r : List Oper) (d : Option Tmp) (s : St) : Option (Prop × V × Blk) → Prop
  | some (p, v, b) => p ∧ LK P x k ops r ⟨putS s.slots d v, s.heap ++ [b]⟩
  | none => False
theorem OB_some (p : Prop) (v : V) (b : Blk) : OB P x k ops r d ⟨sl, hp⟩ (some (p, v, b)) = (p ∧ LK P x k ops r ⟨putS sl d v, hp ++ [b]⟩) := rfl
theorem LK_alloc (t : TypeId) : LK P x k ops ({ dst := d, op := .alloc t, type := ty, pos := pos, after := af, guard := none } :: r) ⟨sl, hp⟩ = OB P x k ops r d ⟨sl, hp⟩ ((zeroL P t).map fun z => (True, .p hp.length 0, ⟨z, t, .fix⟩)) := by
  rw [LK_any P x k ops r d ty pos af ⟨sl, hp⟩ (.alloc t) (by intro f xs ats e; cases e)]
  simp only [opV]
  cases zeroL P t <;> rfl
theorem LK_box (t : TypeId) (a : Operand) : LK P x k ops ({ dst := d, op := .box t a, type := ty, pos := pos, after := af, guard := none } :: r) ⟨sl, hp⟩ = OB P x k ops r d ⟨sl, hp⟩ (some ((ev sl a).solid = true, .p hp.length 0, ⟨cellsL (ev sl a), t, .fix⟩)) := by
  rw [LK_any P x k ops r d ty pos af ⟨sl, hp⟩ (.box t a) (by intro f xs ats e; cases e)]; rfl
theorem LK_bsl (t : TypeId) (len : Nat) (ps : List (Nat × Operand)) : LK P x k ops ({ dst := d, op := .buildSlice t len ⟨ps⟩, type := ty, pos := pos, after := af, guard := none } :: r) ⟨sl, hp⟩ = OB P x k ops r d ⟨sl, hp⟩ (bslV P hp.length t len (ps.map fun q => (q.1, ev sl q.2))) := by
  rw [LK_any P x k ops r d ty pos af ⟨sl, hp⟩ (.buildSlice t len ⟨ps⟩) (by intro f xs ats e; cases e)]
  simp only [opV]
  cases bslV P hp.length t len (ps.map fun q => (q.1, ev sl q.2)) <;> rfl
theorem LK_mk (t : TypeId) (l c : Operand) : LK P x k ops ({ dst := d, op := .makeSlice t l c, type := ty, pos := pos, after := af, guard := none } :: r) ⟨sl, hp⟩ = OB P x k ops r d ⟨sl, hp⟩ (mkV P hp.length t (ev sl l) (ev sl c)) := by
  rw [LK_any P x k ops r d ty pos af ⟨sl, hp⟩ (.makeSlice t l c) (by intro f xs ats e; cases e)]
  simp only [opV]
  cases mkV P hp.length t (ev sl l) (ev sl c) <;> rfl
theorem LK_append (a b : Operand) (t : TypeId) : LK P x k ops ({ dst := d, op := .call { callee := .builtin .append, args := ⟨[a, b]⟩, argTypes := ⟨[t, t]⟩ }, type := ty, pos := pos, after := af, guard := none } :: r) ⟨sl, hp⟩ = OK P x k ops r d (appV P x.n0 ⟨sl, hp⟩ t (ev sl a) (ev sl b)) := by
  rw [LK_any P x k ops r d ty pos af ⟨sl, hp⟩ (.call { callee := .builtin .append, args := ⟨[a, b]⟩, argTypes := ⟨[t, t]⟩ }) (by intro f xs ats e; cases e)]
  simp only [opV, if_true]
end

theorem cal_of {P : Program} (hm : P.follows .mixedOrders = true) {f : FuncId} {fn : Func} {c : Code} {args : List V} {H : List Blk} {R : V → List Blk → Prop} {nt : Nat} {rs : List ResultVar}
    (hf : P.funcs[f]? = some fn) (hb : fn.body = some c) (hname : (fn.name != "runtime.NumGoroutine") = true) (hnt : fn.ntmps = nt) (hrs : fn.results.toList = rs)
    (h : HWf H → ∀ x : Cx, x.n0 = H.length → (∀ e s, fin P H.length rs R e s → x.Q e s) → WK P x [] c ⟨args ++ List.replicate (nt - args.length) .any, H⟩) : Cal P f args H R := by
  subst hnt; subst hrs
  refine cal_intro (drawLaw hm) hf hb hname fun hw => ?_
  exact h hw ⟨H.length, fin P H.length fn.results.toList R⟩ rfl fun e s hq => hq
end Go.Sx
