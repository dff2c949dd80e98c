/- A small symbolic layer over the model, part 3: the rules of the walk, words for rows of numbers, and the opening of arguments; it speaks of no one program. -/
import Derived.Test.YtlpldbcjnbpgiaaLB
import Derived.KernelRfl
import Derived.OpenShut
import Derived.ChangeArms
import Derived.Below
import Derived.Carry
import Derived.ShutString
import Derived.ChangeOld
import Derived.ProofKit
import Derived.Laws.BitsAllLaws
set_option linter.unusedVariables false
set_option linter.unusedSimpArgs false
namespace Go.Sx
open Go.RowKit

/-- What stands behind a piece of code, as data. -/
inductive Kt where
  | seq (c : Code)
  | blk (id : Nat)
  | lp (R : St → Prop) (μ : St → Nat) (m : Nat)

structure Cx where
  n0 : Nat
  Q : Exit → St → Prop

def den (P : Program) (n0 : Nat) : List Kt → (Exit → St → Prop) → Exit → St → Prop
  | [], Q => Q
  | .seq c :: k, Q => fun e s => match e with
    | .normal => W P n0 (Dw P n0) c (den P n0 k Q) s
    | e => den P n0 k Q e s
  | .blk id :: k, Q => fun e s => match e with
    | .exit id' => if id' = id then den P n0 k Q .normal s else den P n0 k Q (.exit id') s
    | e => den P n0 k Q e s
  | .lp R μ m :: k, Q => fun e s => match e with
    | .normal => ∃ s2, Weak n0 s s2 ∧ R s2 ∧ μ s2 < m
    | e => den P n0 k Q e s

def WK (P : Program) (x : Cx) (k : List Kt) (c : Code) (s : St) : Prop := W P x.n0 (Dw P x.n0) c (den P x.n0 k x.Q) s
def EK (P : Program) (x : Cx) (k : List Kt) (e : Exit) (s : St) : Prop := den P x.n0 k x.Q e s
def LK (P : Program) (x : Cx) (k : List Kt) (ops : Array Oper) (l : List Oper) (s : St) : Prop := Wl P x.n0 ops l (den P x.n0 k x.Q .normal) s
def DK (P : Program) (x : Cx) (k : List Kt) (ops : Array Oper) (s : St) : Prop := Dw P x.n0 ops (den P x.n0 k x.Q .normal) s
def CK (P : Program) (x : Cx) (k : List Kt) (a b : Code) (s : St) : V → Prop
  | .v (.bool t) => (t = true → WK P x k a s) ∧ (t = false → WK P x k b s)
  | _ => False
def putS (sl : List V) (d : Option Tmp) (v : V) : List V := match d with | some d => setn sl d v | none => sl
/-- An operation of the heap's. -/
def OK (P : Program) (x : Cx) (k : List Kt) (ops : Array Oper) (r : List Oper) (d : Option Tmp) : Option (Prop × V × St) → Prop
  | some (p, v, s') => p ∧ LK P x k ops r ⟨putS s'.slots d v, s'.heap⟩
  | none => False
/-- An operation that leaves the heap alone. -/
def RK (P : Program) (x : Cx) (k : List Kt) (ops : Array Oper) (r : List Oper) (d : Option Tmp) (s : St) : Option (Prop × V) → Prop
  | some (p, v) => p ∧ LK P x k ops r ⟨putS s.slots d v, s.heap⟩
  | none => False
def SK (P : Program) (x : Cx) (k : List Kt) (ops : Array Oper) (r : List Oper) (d : Option Tmp) (args : List V) (s : St) : V → Prop
  | .f n cs => args.all V.solid = true ∧ Cal P n (args ++ cs) s.heap fun v H' => LK P x k ops r ⟨putS s.slots d v, H'⟩
  | _ => False
/-- A guarded operation. -/
def HK (P : Program) (x : Cx) (k : List Kt) (ops : Array Oper) (r : List Oper) (d : Option Tmp) (op : Op) (ty : TypeId) (pos : String) (af : Array Edge) (s : St) : Option Bool → Prop
  | some g => (g = true → LK P x k ops ({ dst := d, op := op, type := ty, pos := pos, after := af, guard := none } :: r) s) ∧ (g = false → LK P x k ops r ⟨putS s.slots d .any, s.heap⟩)
  | none => False

theorem put_putS (s : St) (d : Option Tmp) (v : V) : s.put d v = ⟨putS s.slots d v, s.heap⟩ := by
  unfold St.put putS; split <;> rfl

section
variable (P : Program) (x : Cx) (k : List Kt) (ops : Array Oper) (r : List Oper) (d : Option Tmp) (ty : TypeId) (pos : String) (af : Array Edge) (sl : List V) (hp : List Blk) (s : St)

theorem WK_seq (a b : Code) : WK P x k (.seq a b) s = WK P x (.seq b :: k) a s := rfl
theorem WK_skip : WK P x k .skip s = EK P x k .normal s := rfl
theorem WK_ret : WK P x k .ret s = EK P x k .ret s := rfl
theorem WK_exit (id : Nat) : WK P x k (.exit id) s = EK P x k (.exit id) s := rfl
theorem WK_block (id : Nat) (c : Code) : WK P x k (.block id c) s = WK P x (.blk id :: k) c s := rfl
theorem WK_cond (c : Operand) (a b : Code) : WK P x k (.cond c a b) ⟨sl, hp⟩ = CK P x k a b ⟨sl, hp⟩ (ev sl c) := by
  unfold WK W
  cases h : ev sl c with
  | v y => cases y <;> rfl
  | _ => rfl
theorem WK_region (id : Nat) (l : List Oper) : WK P x k (.region id ⟨l⟩ false) s = LK P x k ⟨l⟩ l s := rfl
theorem WK_draw (id : Nat) : WK P x k (.region id ops true) s = DK P x k ops s := rfl
theorem CK_bool (t : Bool) (a b : Code) : CK P x k a b s (.v (.bool t)) = ((t = true → WK P x k a s) ∧ (t = false → WK P x k b s)) := rfl

theorem EK_seq_n (c : Code) : EK P x (.seq c :: k) .normal s = WK P x k c s := rfl
theorem EK_seq_r (c : Code) : EK P x (.seq c :: k) .ret s = EK P x k .ret s := rfl
theorem EK_seq_e (c : Code) (id : Nat) : EK P x (.seq c :: k) (.exit id) s = EK P x k (.exit id) s := rfl
theorem EK_blk_n (id : Nat) : EK P x (.blk id :: k) .normal s = EK P x k .normal s := rfl
theorem EK_blk_r (id : Nat) : EK P x (.blk id :: k) .ret s = EK P x k .ret s := rfl
theorem EK_blk_e (id id' : Nat) : EK P x (.blk id :: k) (.exit id') s = if id' = id then EK P x k .normal s else EK P x k (.exit id') s := rfl
theorem EK_lp_r (R : St → Prop) (μ : St → Nat) (m : Nat) : EK P x (.lp R μ m :: k) .ret s = EK P x k .ret s := rfl
theorem EK_lp_e (R : St → Prop) (μ : St → Nat) (m : Nat) (id : Nat) : EK P x (.lp R μ m :: k) (.exit id) s = EK P x k (.exit id) s := rfl
/-- A round's end. -/
theorem EK_lp_n {R : St → Prop} {μ : St → Nat} {m : Nat} {s : St} (s2 : St) (h : Weak x.n0 s s2) (hR : R s2) (hm : μ s2 < m) : EK P x (.lp R μ m :: k) .normal s := ⟨s2, h, hR, hm⟩
/-- A loop. -/
theorem WK_loop {c : Code} {s : St} (R : St → Prop) (μ : St → Nat) (s0 : St) (h0 : Weak x.n0 s s0) (hR : R s0) (h : ∀ s1, R s1 → WK P x (.lp R μ (μ s1) :: k) c s1) : WK P x k (.loop c) s := by
  refine ⟨R, μ, ⟨s0, h0, hR⟩, fun s1 h1 => ?_⟩
  have := h s1 h1
  exact this

theorem LK_nil : LK P x k ops [] s = EK P x k .normal s := rfl
theorem LK_any (op : Op) (hne : ∀ f xs ats, op ≠ .call { callee := .value f, args := xs, argTypes := ats }) :
    LK P x k ops ({ dst := d, op := op, type := ty, pos := pos, after := af, guard := none } :: r) s = OK P x k ops r d (opV P x.n0 s op) := by
  unfold LK
  rw [Wl]
  simp only [guardV, forall_const, false_implies, and_true, Bool.true_eq_false]
  unfold Wo
  split
  · rename_i f xs ats h; exact absurd h (hne f xs ats)
  · split
    · rename_i h; rw [h]; simp only [OK, put_putS]; rfl
    · rename_i h; rw [h]; rfl
theorem LK_call (f : Operand) (xs : List Operand) (ats : Array TypeId) :
    LK P x k ops ({ dst := d, op := .call { callee := .value f, args := ⟨xs⟩, argTypes := ats }, type := ty, pos := pos, after := af, guard := none } :: r) ⟨sl, hp⟩ = SK P x k ops r d (xs.map (ev sl)) ⟨sl, hp⟩ (ev sl f) := by
  unfold LK
  rw [Wl]
  simp only [guardV, forall_const, false_implies, and_true, Bool.true_eq_false]
  unfold Wo
  simp only
  split
  · rename_i h; rw [h]; simp only [SK, put_putS]; rfl
  · rename_i h
    unfold SK
    split
    · rename_i h1; exact absurd h1 (h _ _)
    · rfl
theorem LK_guard (op : Op) (g : Nat × Bool) :
    LK P x k ops ({ dst := d, op := op, type := ty, pos := pos, after := af, guard := some g } :: r) ⟨sl, hp⟩ = HK P x k ops r d op ty pos af ⟨sl, hp⟩ (guardV ops sl { dst := d, op := op, type := ty, pos := pos, after := af, guard := some g }) := by
  unfold LK
  rw [Wl]
  split
  · rename_i b h
    simp only at h
    rw [h]
    simp only [HK, put_putS]
    have e : LK P x k ops ({ dst := d, op := op, type := ty, pos := pos, after := af, guard := none } :: r) ⟨sl, hp⟩ = Wo P x.n0 { dst := d, op := op, type := ty, pos := pos, after := af, guard := none } (Wl P x.n0 ops r (den P x.n0 k x.Q .normal)) ⟨sl, hp⟩ := by
      unfold LK
      rw [Wl]
      simp only [guardV, forall_const, false_implies, and_true, Bool.true_eq_false]
    rw [e]
    rfl
  · rename_i h
    simp only at h
    rw [h]; rfl

theorem OK_some (p : Prop) (v : V) (s' : St) : OK P x k ops r d (some (p, v, s')) = (p ∧ LK P x k ops r ⟨putS s'.slots d v, s'.heap⟩) := rfl
theorem HK_some (op : Op) (g : Bool) : HK P x k ops r d op ty pos af s (some g) = ((g = true → LK P x k ops ({ dst := d, op := op, type := ty, pos := pos, after := af, guard := none } :: r) s) ∧ (g = false → LK P x k ops r ⟨putS s.slots d .any, s.heap⟩)) := rfl

/-- A call by its contract. -/
theorem SK_of {args : List V} {s : St} {n : Nat} {cs : List V} {R : V → List Blk → Prop} (hs : args.all V.solid = true) (hc : Cal P n (args ++ cs) s.heap R) (h : ∀ v H', R v H' → LK P x k ops r ⟨putS s.slots d v, H'⟩) : SK P x k ops r d args s (.f n cs) :=
  ⟨hs, hc.mono h⟩
theorem SK_ret {args : List V} {s : St} {n : Nat} {cs : List V} {v : V} {H' : List Blk} (hc : Cal P n (args ++ cs) s.heap fun v1 H1 => v1 = v ∧ H1 = H') (hs : args.all V.solid = true) (h : LK P x k ops r ⟨putS s.slots d v, H'⟩) : SK P x k ops r d args s (.f n cs) :=
  ⟨hs, hc.mono fun v1 H1 ⟨e1, e2⟩ => by rw [e1, e2]; exact h⟩

theorem RKop (op : Op) (h : ∀ f xs ats, op ≠ .call { callee := .value f, args := xs, argTypes := ats }) (e : opV P x.n0 ⟨sl, hp⟩ op = (pv P (ev sl) op).map fun q => (q.1, q.2, ⟨sl, hp⟩)) :
    LK P x k ops ({ dst := d, op := op, type := ty, pos := pos, after := af, guard := none } :: r) ⟨sl, hp⟩ = RK P x k ops r d ⟨sl, hp⟩ (pv P (ev sl) op) := by
  rw [LK_any (hne := h), e]
  cases pv P (ev sl) op <;> rfl
theorem RK_some (p : Prop) (v : V) : RK P x k ops r d ⟨sl, hp⟩ (some (p, v)) = (p ∧ LK P x k ops r ⟨putS sl d v, hp⟩) := rfl

theorem LK_move (y : Operand) : LK P x k ops ({ dst := d, op := .move y, type := ty, pos := pos, after := af, guard := none } :: r) ⟨sl, hp⟩ = LK P x k ops r ⟨putS sl d (ev sl y), hp⟩ := by
  rw [RKop P x k ops r d ty pos af sl hp (.move y) (by intro f xs ats e; cases e) rfl]; simp [pv, RK]
theorem LK_assign (y : Operand) : LK P x k ops ({ dst := d, op := .assign y, type := ty, pos := pos, after := af, guard := none } :: r) ⟨sl, hp⟩ = LK P x k ops r ⟨putS sl d (ev sl y), hp⟩ := by
  rw [RKop P x k ops r d ty pos af sl hp (.assign y) (by intro f xs ats e; cases e) rfl]; simp [pv, RK]
theorem LK_pick (c a b : Operand) : LK P x k ops ({ dst := d, op := .pick c a b, type := ty, pos := pos, after := af, guard := none } :: r) ⟨sl, hp⟩ = RK P x k ops r d ⟨sl, hp⟩ (pickB (ev sl a) (ev sl b) (ev sl c)) := by
  rw [RKop P x k ops r d ty pos af sl hp (.pick c a b) (by intro f xs ats e; cases e) rfl]; rfl
theorem LK_nil' (y : Operand) : LK P x k ops ({ dst := d, op := .nilCheck y, type := ty, pos := pos, after := af, guard := none } :: r) ⟨sl, hp⟩ = RK P x k ops r d ⟨sl, hp⟩ (nilV (ev sl y)) := by
  rw [RKop P x k ops r d ty pos af sl hp (.nilCheck y) (by intro f xs ats e; cases e) rfl]; rfl
theorem LK_bin (op : BinOp) (t u : TypeId) (a b : Operand) : LK P x k ops ({ dst := d, op := .binOp op t a b u, type := ty, pos := pos, after := af, guard := none } :: r) ⟨sl, hp⟩ = RK P x k ops r d ⟨sl, hp⟩ (binV P op t (ev sl a) (ev sl b)) := by
  rw [RKop P x k ops r d ty pos af sl hp (.binOp op t a b u) (by intro f xs ats e; cases e) rfl]; rfl
theorem LK_un (op : UnOp) (t : TypeId) (a : Operand) : LK P x k ops ({ dst := d, op := .unOp op t a, type := ty, pos := pos, after := af, guard := none } :: r) ⟨sl, hp⟩ = RK P x k ops r d ⟨sl, hp⟩ (unV op (ev sl a)) := by
  rw [RKop P x k ops r d ty pos af sl hp (.unOp op t a) (by intro f xs ats e; cases e) rfl]; rfl
theorem LK_conv (t u : TypeId) (a : Operand) : LK P x k ops ({ dst := d, op := .convert t u a, type := ty, pos := pos, after := af, guard := none } :: r) ⟨sl, hp⟩ = RK P x k ops r d ⟨sl, hp⟩ (convV P t u (ev sl a)) := by
  rw [RKop P x k ops r d ty pos af sl hp (.convert t u a) (by intro f xs ats e; cases e) rfl]; rfl
theorem LK_faddr (t : TypeId) (a : Operand) (f : Nat) : LK P x k ops ({ dst := d, op := .fieldAddr t a f, type := ty, pos := pos, after := af, guard := none } :: r) ⟨sl, hp⟩ = RK P x k ops r d ⟨sl, hp⟩ (fieldAddrV P t f (ev sl a)) := by
  rw [RKop P x k ops r d ty pos af sl hp (.fieldAddr t a f) (by intro f xs ats e; cases e) rfl]; rfl
theorem LK_field (t : TypeId) (a : Operand) (f : Nat) : LK P x k ops ({ dst := d, op := .field t a f, type := ty, pos := pos, after := af, guard := none } :: r) ⟨sl, hp⟩ = RK P x k ops r d ⟨sl, hp⟩ (fieldV P t f (ev sl a)) := by
  rw [RKop P x k ops r d ty pos af sl hp (.field t a f) (by intro f xs ats e; cases e) rfl]; rfl
theorem LK_iaddr (t : TypeId) (a b : Operand) : LK P x k ops ({ dst := d, op := .indexAddr t a b, type := ty, pos := pos, after := af, guard := none } :: r) ⟨sl, hp⟩ = RK P x k ops r d ⟨sl, hp⟩ (indexAddrV P t (ev sl a) (ev sl b)) := by
  rw [RKop P x k ops r d ty pos af sl hp (.indexAddr t a b) (by intro f xs ats e; cases e) rfl]; rfl
theorem LK_index (t : TypeId) (a b : Operand) : LK P x k ops ({ dst := d, op := .index t a b, type := ty, pos := pos, after := af, guard := none } :: r) ⟨sl, hp⟩ = RK P x k ops r d ⟨sl, hp⟩ (indexV P t (ev sl a) (ev sl b)) := by
  rw [RKop P x k ops r d ty pos af sl hp (.index t a b) (by intro f xs ats e; cases e) rfl]; rfl
theorem LK_extract (a : Operand) (i : Nat) : LK P x k ops ({ dst := d, op := .extract a i, type := ty, pos := pos, after := af, guard := none } :: r) ⟨sl, hp⟩ = RK P x k ops r d ⟨sl, hp⟩ (extractV i (ev sl a)) := by
  rw [RKop P x k ops r d ty pos af sl hp (.extract a i) (by intro f xs ats e; cases e) rfl]; rfl
theorem LK_len (a : Operand) (t : TypeId) : LK P x k ops ({ dst := d, op := .call { callee := .builtin .len, args := ⟨[a]⟩, argTypes := ⟨[t]⟩ }, type := ty, pos := pos, after := af, guard := none } :: r) ⟨sl, hp⟩ = RK P x k ops r d ⟨sl, hp⟩ (lenV P t (ev sl a)) := by
  rw [RKop P x k ops r d ty pos af sl hp (.call { callee := .builtin .len, args := ⟨[a]⟩, argTypes := ⟨[t]⟩ }) (by intro f xs ats e; cases e) rfl]; rfl
theorem LK_max (a b : Operand) (ts : Array TypeId) : LK P x k ops ({ dst := d, op := .call { callee := .builtin .max, args := ⟨[a, b]⟩, argTypes := ts }, type := ty, pos := pos, after := af, guard := none } :: r) ⟨sl, hp⟩ = RK P x k ops r d ⟨sl, hp⟩ (max2V true (ev sl a) (ev sl b)) := by
  rw [RKop P x k ops r d ty pos af sl hp (.call { callee := .builtin .max, args := ⟨[a, b]⟩, argTypes := ts }) (by intro f xs ats e; cases e) rfl]; rfl
theorem LK_min (a b : Operand) (ts : Array TypeId) : LK P x k ops ({ dst := d, op := .call { callee := .builtin .min, args := ⟨[a, b]⟩, argTypes := ts }, type := ty, pos := pos, after := af, guard := none } :: r) ⟨sl, hp⟩ = RK P x k ops r d ⟨sl, hp⟩ (max2V false (ev sl a) (ev sl b)) := by
  rw [RKop P x k ops r d ty pos af sl hp (.call { callee := .builtin .min, args := ⟨[a, b]⟩, argTypes := ts }) (by intro f xs ats e; cases e) rfl]; rfl

theorem OKr (op : Op) (f : Option (Prop × V)) (h : ∀ f xs ats, op ≠ .call { callee := .value f, args := xs, argTypes := ats }) (e : opV P x.n0 ⟨sl, hp⟩ op = f.map fun q => (q.1, q.2, ⟨sl, hp⟩)) :
    LK P x k ops ({ dst := d, op := op, type := ty, pos := pos, after := af, guard := none } :: r) ⟨sl, hp⟩ = RK P x k ops r d ⟨sl, hp⟩ f := by
  rw [LK_any (hne := h), e]
  cases f <;> rfl
theorem LK_load (t : TypeId) (a : Operand) : LK P x k ops ({ dst := d, op := .load t a, type := ty, pos := pos, after := af, guard := none } :: r) ⟨sl, hp⟩ = RK P x k ops r d ⟨sl, hp⟩ (ldV P hp t (ev sl a)) :=
  OKr P x k ops r d ty pos af sl hp (.load t a) _ (by intro f xs ats e; cases e) rfl
theorem LK_build (t : TypeId) (ps : List (Nat × Operand)) : LK P x k ops ({ dst := d, op := .build t ⟨ps⟩, type := ty, pos := pos, after := af, guard := none } :: r) ⟨sl, hp⟩ = RK P x k ops r d ⟨sl, hp⟩ (buildV P t (ps.map fun q => (q.1, ev sl q.2))) :=
  OKr P x k ops r d ty pos af sl hp (.build t ⟨ps⟩) _ (by intro f xs ats e; cases e) rfl
theorem LK_slice (t : TypeId) (a : Operand) (lo hi mx : Option Operand) : LK P x k ops ({ dst := d, op := .slice t a lo hi mx, type := ty, pos := pos, after := af, guard := none } :: r) ⟨sl, hp⟩ =
    RK P x k ops r d ⟨sl, hp⟩ ((sliceV P t (ev sl a) (lo.map (ev sl)) (hi.map (ev sl)) (mx.map (ev sl))).map fun q => (q.1 ∧ capOk hp (ev sl a), q.2)) := by
  refine OKr P x k ops r d ty pos af sl hp (.slice t a lo hi mx) _ (by intro f xs ats e; cases e) ?_
  simp [opV, Option.map_map, Function.comp_def]
theorem LK_mkf (n : Nat) (cs : List Operand) : LK P x k ops ({ dst := d, op := .makeFunc (.func n) ⟨[]⟩ ⟨cs⟩, type := ty, pos := pos, after := af, guard := none } :: r) ⟨sl, hp⟩ = RK P x k ops r d ⟨sl, hp⟩ (some ((cs.map (ev sl)).all V.solid = true, .f n (cs.map (ev sl)))) :=
  OKr P x k ops r d ty pos af sl hp (.makeFunc (.func n) ⟨[]⟩ ⟨cs⟩) _ (by intro f xs ats e; cases e) rfl

/-- The heap behind a store. -/
def OS (P : Program) (x : Cx) (k : List Kt) (ops : Array Oper) (r : List Oper) (sl : List V) : Option (Prop × List Blk) → Prop
  | some (p, hp') => p ∧ LK P x k ops r ⟨sl, hp'⟩
  | none => False
theorem OS_some (p : Prop) (hp' : List Blk) : OS P x k ops r sl (some (p, hp')) = (p ∧ LK P x k ops r ⟨sl, hp'⟩) := rfl
theorem LK_store (t : TypeId) (a b : Operand) : LK P x k ops ({ dst := none, op := .store t a b, type := ty, pos := pos, after := af, guard := none } :: r) ⟨sl, hp⟩ = OS P x k ops r sl (stV P hp t (ev sl b) (ev sl a)) := by
  rw [LK_any P x k ops r none ty pos af ⟨sl, hp⟩ (.store t a b) (by intro f xs ats e; cases e)]
  simp only [opV]
  cases stV P hp t (ev sl b) (ev sl a) <;> rfl
/-- The heap with a new block. -/
def OB (P : Program) (x : Cx) (k : List Kt) (ops : Array Oper) (r : List Oper) (d : Option Tmp) (s : St) : Option (Prop × V × Blk) → Prop
  | some (p, v, b) => p ∧ LK P x k ops r ⟨putS s.slots d v, s.heap ++ [b]⟩
  | none => False
theorem OB_some (p : Prop) (v : V) (b : Blk) : OB P x k ops r d ⟨sl, hp⟩ (some (p, v, b)) = (p ∧ LK P x k ops r ⟨putS sl d v, hp ++ [b]⟩) := rfl
theorem LK_alloc (t : TypeId) : LK P x k ops ({ dst := d, op := .alloc t, type := ty, pos := pos, after := af, guard := none } :: r) ⟨sl, hp⟩ = OB P x k ops r d ⟨sl, hp⟩ ((zeroL P t).map fun z => (True, .p hp.length 0, ⟨z, t, .fix⟩)) := by
  rw [LK_any P x k ops r d ty pos af ⟨sl, hp⟩ (.alloc t) (by intro f xs ats e; cases e)]
  simp only [opV]
  cases zeroL P t <;> rfl
theorem LK_box (t : TypeId) (a : Operand) : LK P x k ops ({ dst := d, op := .box t a, type := ty, pos := pos, after := af, guard := none } :: r) ⟨sl, hp⟩ = OB P x k ops r d ⟨sl, hp⟩ (some ((ev sl a).solid = true, .p hp.length 0, ⟨cellsL (ev sl a), t, .fix⟩)) := by
  rw [LK_any P x k ops r d ty pos af ⟨sl, hp⟩ (.box t a) (by intro f xs ats e; cases e)]; rfl
theorem LK_bsl (t : TypeId) (len : Nat) (ps : List (Nat × Operand)) : LK P x k ops ({ dst := d, op := .buildSlice t len ⟨ps⟩, type := ty, pos := pos, after := af, guard := none } :: r) ⟨sl, hp⟩ = OB P x k ops r d ⟨sl, hp⟩ (bslV P hp.length t len (ps.map fun q => (q.1, ev sl q.2))) := by
  rw [LK_any P x k ops r d ty pos af ⟨sl, hp⟩ (.buildSlice t len ⟨ps⟩) (by intro f xs ats e; cases e)]
  simp only [opV]
  cases bslV P hp.length t len (ps.map fun q => (q.1, ev sl q.2)) <;> rfl
theorem LK_mk (t : TypeId) (l c : Operand) : LK P x k ops ({ dst := d, op := .makeSlice t l c, type := ty, pos := pos, after := af, guard := none } :: r) ⟨sl, hp⟩ = OB P x k ops r d ⟨sl, hp⟩ (mkV P hp.length t (ev sl l) (ev sl c)) := by
  rw [LK_any P x k ops r d ty pos af ⟨sl, hp⟩ (.makeSlice t l c) (by intro f xs ats e; cases e)]
  simp only [opV]
  cases mkV P hp.length t (ev sl l) (ev sl c) <;> rfl
theorem LK_append (a b : Operand) (t : TypeId) : LK P x k ops ({ dst := d, op := .call { callee := .builtin .append, args := ⟨[a, b]⟩, argTypes := ⟨[t, t]⟩ }, type := ty, pos := pos, after := af, guard := none } :: r) ⟨sl, hp⟩ = OK P x k ops r d (appV P x.n0 ⟨sl, hp⟩ t (ev sl a) (ev sl b)) := by
  rw [LK_any P x k ops r d ty pos af ⟨sl, hp⟩ (.call { callee := .builtin .append, args := ⟨[a, b]⟩, argTypes := ⟨[t, t]⟩ }) (by intro f xs ats e; cases e)]
  simp only [opV, if_true]
end

/-- THE LAW ON A FUNCTION, for the walk. -/
theorem cal_of {P : Program} (hm : P.follows .mixedOrders = true) {f : FuncId} {fn : Func} {c : Code} {args : List V} {H : List Blk} {R : V → List Blk → Prop} {nt : Nat} {rs : List ResultVar}
    (hf : P.funcs[f]? = some fn) (hb : fn.body = some c) (hname : (fn.name != "runtime.NumGoroutine") = true) (hnt : fn.ntmps = nt) (hrs : fn.results.toList = rs)
    (h : HWf H → ∀ x : Cx, x.n0 = H.length → (∀ e s, fin P H.length rs R e s → x.Q e s) → WK P x [] c ⟨args ++ List.replicate (nt - args.length) .any, H⟩) : Cal P f args H R := by
  subst hnt; subst hrs
  refine cal_intro (drawLaw hm) hf hb hname fun hw => ?_
  exact h hw ⟨H.length, fin P H.length fn.results.toList R⟩ rfl fun e s hq => hq
end Go.Sx
namespace Go.Sx
open Go.RowKit

section
variable {P : Program} {x : Cx} {k : List Kt} {ops : Array Oper} {r : List Oper} {d : Option Tmp} {c a b : Code} {s s' : St} {e : Exit}
@[congr] theorem WK_congr (h : s = s') : WK P x k c s = WK P x k c s' := by rw [h]
@[congr] theorem EK_congr (h : s = s') : EK P x k e s = EK P x k e s' := by rw [h]
@[congr] theorem LK_congr (h : s = s') : LK P x k ops r s = LK P x k ops r s' := by rw [h]
@[congr] theorem DK_congr (h : s = s') : DK P x k ops s = DK P x k ops s' := by rw [h]
@[congr] theorem CK_congr {v v' : V} (h : s = s') (h2 : v = v') : CK P x k a b s v = CK P x k a b s' v' := by rw [h, h2]
@[congr] theorem RK_congr {o o' : Option (Prop × V)} (h : s = s') (h2 : o = o') : RK P x k ops r d s o = RK P x k ops r d s' o' := by rw [h, h2]
@[congr] theorem OK_congr {o o' : Option (Prop × V × St)} (h2 : o = o') : OK P x k ops r d o = OK P x k ops r d o' := by rw [h2]
@[congr] theorem OS_congr {sl sl' : List V} {o o' : Option (Prop × List Blk)} (h : sl = sl') (h2 : o = o') : OS P x k ops r sl o = OS P x k ops r sl' o' := by rw [h, h2]
@[congr] theorem OB_congr {o o' : Option (Prop × V × Blk)} (h : s = s') (h2 : o = o') : OB P x k ops r d s o = OB P x k ops r d s' o' := by rw [h, h2]
@[congr] theorem SK_congr {l l' : List V} {v v' : V} (h0 : l = l') (h : s = s') (h2 : v = v') : SK P x k ops r d l s v = SK P x k ops r d l' s' v' := by rw [h0, h, h2]
@[congr] theorem HK_congr {op : Op} {ty : TypeId} {pos : String} {af : Array Edge} {o o' : Option Bool} (h : s = s') (h2 : o = o') : HK P x k ops r d op ty pos af s o = HK P x k ops r d op ty pos af s' o' := by rw [h, h2]
end

theorem EK_nil (P : Program) (x : Cx) (e : Exit) (s : St) : EK P x [] e s = x.Q e s := rfl

attribute [go_sem] WK_seq WK_skip WK_ret WK_exit WK_block WK_cond WK_region CK_bool EK_seq_n EK_seq_r EK_seq_e EK_blk_n EK_blk_r EK_blk_e EK_lp_r EK_lp_e
  LK_nil LK_call LK_guard OK_some HK_some RK_some LK_move LK_assign LK_pick LK_nil' LK_bin LK_un LK_conv LK_faddr LK_field LK_iaddr LK_index LK_extract LK_len LK_max LK_min
  LK_load LK_build LK_slice LK_mkf OS_some LK_store OB_some LK_alloc LK_box LK_bsl LK_mk LK_append

/- The slots. -/
section
variable (sl xs : List V) (v y : V) (n t : Nat)
@[go_sem] theorem putS_some : putS sl (some t) v = setn sl t v := rfl
@[go_sem] theorem putS_none : putS sl none v = sl := rfl
@[go_sem] theorem setn_zero : setn (y :: xs) 0 v = v :: xs := rfl
@[go_sem] theorem setn_succ : setn (y :: xs) (n + 1) v = y :: setn xs n v := rfl
@[go_sem] theorem nth_zero : nth (y :: xs) 0 = y := rfl
@[go_sem] theorem nth_succ : nth (y :: xs) (n + 1) = nth xs n := rfl
@[go_sem] theorem ev_tmp : ev sl (.tmp t) = nth sl t := rfl
@[go_sem] theorem ev_const (z : Value) : ev sl (.const z) = cst z := rfl
@[go_sem] theorem ev_func (f : FuncId) : ev sl (.func f) = .f f [] := rfl
@[go_sem] theorem ev_global (g : Nat) : ev sl (.global g) = .v (.pointer (some ⟨g, 0, none⟩)) := rfl
@[go_sem] theorem cst_int (kd : IntKind) (z : Int) : cst (.int kd z) = .v (.int kd z) := rfl
@[go_sem] theorem cst_bool (z : Bool) : cst (.bool z) = .v (.bool z) := rfl
@[go_sem] theorem cst_str (z : ByteArray) : cst (.string z) = .v (.string z) := rfl
@[go_sem] theorem cst_nil : cst (.slice none 0 0) = .v (.slice none 0 0) := rfl
@[go_sem] theorem cst_agg (z : Array Value) : cst (.agg z) = .any := rfl
end
attribute [go_sem] List.map_cons List.map_nil Option.map_some Option.map_none List.cons_append List.nil_append List.append_nil List.append_assoc List.length_append List.length_cons List.length_nil
  true_and and_true forall_const imp_self not_true_eq_false not_false_eq_true false_implies decide_true decide_false Bool.not_true Bool.not_false Bool.true_eq_false Bool.false_eq_true decide_eq_true_eq decide_eq_false_iff_not Bool.not_eq_true' Bool.not_eq_false' Nat.add_zero Nat.zero_add Nat.add_assoc Nat.reduceAdd Nat.reduceSub Nat.reduceMul Nat.reduceEqDiff Nat.reduceLT Nat.reduceLeDiff Int.toNat_natCast Nat.mul_one reduceIte eq_self

/- The values. -/
section
variable (P : Program) (kd : IntKind) (t : TypeId) (a b : Int)
@[go_sem] theorem fit_i64 (n : Int) : fitI .i64 n = (In64 n, .v (.int .i64 n)) := rfl
@[go_sem] theorem fit_u16 (n : Int) : fitI .u16 n = (True, .v (.int .u16 (IntKind.u16.wrap n))) := rfl
@[go_sem] theorem fit_i8 (n : Int) : fitI .i8 n = (True, .v (.int .i8 (IntKind.i8.wrap n))) := rfl
@[go_sem] theorem fit_i16 (n : Int) : fitI .i16 n = (True, .v (.int .i16 (IntKind.i16.wrap n))) := rfl
@[go_sem] theorem fit_u8 (n : Int) : fitI .u8 n = (True, .v (.int .u8 (IntKind.u8.wrap n))) := rfl
@[go_sem] theorem fit_i32 (n : Int) : fitI .i32 n = (True, .v (.int .i32 (IntKind.i32.wrap n))) := rfl
@[go_sem] theorem fit_u64 (n : Int) : fitI .u64 n = (True, .v (.int .u64 (IntKind.u64.wrap n))) := rfl
@[go_sem] theorem fit_u32 (n : Int) : fitI .u32 n = (True, .v (.int .u32 (IntKind.u32.wrap n))) := rfl
@[go_sem] theorem binV_add : binV P .add t (.v (.int kd a)) (.v (.int kd b)) = some (fitI kd (a + b)) := by simp [binV, binI]
@[go_sem] theorem binV_sub : binV P .sub t (.v (.int kd a)) (.v (.int kd b)) = some (fitI kd (a - b)) := by simp [binV, binI]
@[go_sem] theorem binV_mul : binV P .mul t (.v (.int kd a)) (.v (.int kd b)) = some (fitI kd (a * b)) := by simp [binV, binI]
@[go_sem] theorem binV_quo : binV P .quo t (.v (.int kd a)) (.v (.int kd b)) = some (b ≠ 0 ∧ (fitI kd (a.tdiv b)).1, (fitI kd (a.tdiv b)).2) := by simp [binV, binI]
@[go_sem] theorem binV_rem : binV P .rem t (.v (.int kd a)) (.v (.int kd b)) = some (b ≠ 0, .v (.int kd (a.tmod b))) := by simp [binV, binI]
@[go_sem] theorem binV_and : binV P .and t (.v (.int kd a)) (.v (.int kd b)) = some (True, .v (.int kd (bits .and kd a b))) := by simp [binV, binI]
@[go_sem] theorem binV_or : binV P .or t (.v (.int kd a)) (.v (.int kd b)) = some (True, .v (.int kd (bits .or kd a b))) := by simp [binV, binI]
@[go_sem] theorem binV_xor : binV P .xor t (.v (.int kd a)) (.v (.int kd b)) = some (True, .v (.int kd (bits .xor kd a b))) := by simp [binV, binI]
@[go_sem] theorem binV_andNot : binV P .andNot t (.v (.int kd a)) (.v (.int kd b)) = some (True, .v (.int kd (bits .andNot kd a b))) := by simp [binV, binI]
@[go_sem] theorem binV_eql : binV P .eql t (.v (.int kd a)) (.v (.int kd b)) = some (True, .v (.bool (decide (a = b)))) := by simp [binV, binI]
@[go_sem] theorem binV_neq : binV P .neq t (.v (.int kd a)) (.v (.int kd b)) = some (True, .v (.bool (!decide (a = b)))) := by simp [binV, binI]
@[go_sem] theorem binV_lss : binV P .lss t (.v (.int kd a)) (.v (.int kd b)) = some (True, .v (.bool (decide (a < b)))) := by simp [binV, binI]
@[go_sem] theorem binV_leq : binV P .leq t (.v (.int kd a)) (.v (.int kd b)) = some (True, .v (.bool (decide (a ≤ b)))) := by simp [binV, binI]
@[go_sem] theorem binV_gtr : binV P .gtr t (.v (.int kd a)) (.v (.int kd b)) = some (True, .v (.bool (decide (b < a)))) := by simp [binV, binI]
@[go_sem] theorem binV_geq : binV P .geq t (.v (.int kd a)) (.v (.int kd b)) = some (True, .v (.bool (decide (b ≤ a)))) := by simp [binV, binI]
@[go_sem] theorem binV_shl (k' : IntKind) : binV P .shl t (.v (.int kd a)) (.v (.int k' b)) = some (0 ≤ b ∧ (fitI kd (a * 2 ^ (min b.toNat kd.bits))).1, (fitI kd (a * 2 ^ (min b.toNat kd.bits))).2) := by simp [binV, shI]
@[go_sem] theorem binV_shr (k' : IntKind) : binV P .shr t (.v (.int kd a)) (.v (.int k' b)) = some (0 ≤ b, .v (.int kd (a.fdiv (2 ^ (min b.toNat kd.bits))))) := by simp [binV, shI]
def baP (op : BinOp) (xs ys : List V) : Option (List KD) → Option (Prop × V)
  | some ks => match op with
    | .eql => some (okV ks xs = true ∧ okV ks ys = true, .v (.bool (eqL xs ys)))
    | .neq => some (okV ks xs = true ∧ okV ks ys = true, .v (.bool (!eqL xs ys)))
    | _ => none
  | none => none
@[go_sem] theorem baP_eql (xs ys : List V) (ks : List KD) : baP .eql xs ys (some ks) = some (okV ks xs = true ∧ okV ks ys = true, .v (.bool (eqL xs ys))) := rfl
@[go_sem] theorem baP_neq (xs ys : List V) (ks : List KD) : baP .neq xs ys (some ks) = some (okV ks xs = true ∧ okV ks ys = true, .v (.bool (!eqL xs ys))) := rfl
@[go_sem] theorem binV_a (op : BinOp) (xs ys : List V) : binV P op t (.a xs) (.a ys) = baP op xs ys (eqo P t) := by
  unfold binV baP binA; cases eqo P t <;> cases op <;> rfl
def bbP (op : BinOp) (a b : Bool) : Option TypeDesc → Option (Prop × V)
  | some .bool => match op with
    | .eql => some (True, .v (.bool (a == b)))
    | .neq => some (True, .v (.bool (!(a == b))))
    | _ => none
  | _ => none
@[go_sem] theorem bbP_eql (a b : Bool) : bbP .eql a b (some .bool) = some (True, .v (.bool (a == b))) := rfl
@[go_sem] theorem bbP_neq (a b : Bool) : bbP .neq a b (some .bool) = some (True, .v (.bool (!(a == b)))) := rfl
@[go_sem] theorem binV_b (op : BinOp) (a b : Bool) : binV P op t (.v (.bool a)) (.v (.bool b)) = bbP op a b (P.underlying t) := by
  unfold binV bbP binB; rcases P.underlying t with _ | (_ | _) <;> cases op <;> rfl
@[go_sem] theorem unV_neg (n : Int) : unV .neg (.v (.int kd n)) = some (fitI kd (0 - n)) := rfl
@[go_sem] theorem unV_not (z : Bool) : unV .not (.v (.bool z)) = some (True, .v (.bool (!z))) := rfl
@[go_sem] theorem pickB_bool (c p q : Bool) : pickB (.v (.bool p)) (.v (.bool q)) (.v (.bool c)) = some (True, .v (.bool (if c = true then p else q))) := rfl
@[go_sem] theorem nilV_p (i o : Nat) : nilV (.p i o) = some (True, .p i o) := rfl
@[go_sem] theorem nilV_f (n : Nat) (cs : List V) : nilV (.f n cs) = some (True, .f n cs) := rfl
@[go_sem] theorem extractV_t (i : Nat) (vs : List V) : extractV i (.t vs) = some (i < vs.length, nth vs i) := rfl
def faP (i off : Nat) : Option Nat → Option (Prop × V)
  | some o => some (True, .p i (off + o))
  | none => none
@[go_sem] theorem faP_some (i off o : Nat) : faP i off (some o) = some (True, .p i (off + o)) := rfl
@[go_sem] theorem fieldAddrV_p (f i off : Nat) : fieldAddrV P t f (.p i off) = faP i off (foff P t f) := by unfold fieldAddrV faP; cases foff P t f <;> rfl
def ffP (P : Program) (cs : List V) : Option (TypeId × Nat) → Option (Prop × V)
  | some (ty, o) => partV P ty cs o
  | none => none
@[go_sem] theorem ffP_some (cs : List V) (ty o : Nat) : ffP P cs (some (ty, o)) = partV P ty cs o := rfl
@[go_sem] theorem fieldV_a (f : Nat) (cs : List V) : fieldV P t f (.a cs) = ffP P cs (ftyp P t f) := by unfold fieldV ffP; rcases ftyp P t f with _ | ⟨_, _⟩ <;> rfl
def ptP (cs : List V) (off : Nat) : Option Bool → Option Nat → Option (Prop × V)
  | some true, some n => some (off + n ≤ cs.length, .a (seg cs off n))
  | some false, some _ => some (off < cs.length, cel cs off)
  | _, _ => none
@[go_sem] theorem ptP_t (cs : List V) (off n : Nat) : ptP cs off (some true) (some n) = some (off + n ≤ cs.length, .a (seg cs off n)) := rfl
@[go_sem] theorem ptP_f (cs : List V) (off n : Nat) : ptP cs off (some false) (some n) = some (off < cs.length, cel cs off) := rfl
@[go_sem] theorem partV_eq (cs : List V) (off : Nat) : partV P t cs off = ptP cs off (aggo P t) (szo P t) := by
  unfold partV ptP; rcases aggo P t with _ | (_ | _) <;> cases szo P t <;> rfl
def iaP (i off : Nat) (n : Int) : Option (Bool × Nat × Nat) → Option (Prop × V)
  | some (true, len, z) => some (0 ≤ n ∧ n < (len : Int), .p i (off + n.toNat * z))
  | _ => none
@[go_sem] theorem iaP_some (i off len z : Nat) (n : Int) : iaP i off n (some (true, len, z)) = some (0 ≤ n ∧ n < (len : Int), .p i (off + n.toNat * z)) := rfl
@[go_sem] theorem indexAddrV_p (i off : Nat) (n : Int) : indexAddrV P t (.p i off) (.v (.int kd n)) = iaP i off n (rowo P t) := by
  unfold indexAddrV iaP; rcases rowo P t with _ | ⟨_ | _, _, _⟩ <;> rfl
def isP (i off len : Nat) (n : Int) : Option (Bool × Nat × Nat) → Option (Prop × V)
  | some (false, _, z) => some (0 ≤ n ∧ n < (len : Int), .p i (off + n.toNat * z))
  | _ => none
@[go_sem] theorem isP_some (i off len m z : Nat) (n : Int) : isP i off len n (some (false, m, z)) = some (0 ≤ n ∧ n < (len : Int), .p i (off + n.toNat * z)) := rfl
@[go_sem] theorem indexAddrV_s (i off len : Nat) (cp : Cap) (n : Int) : indexAddrV P t (.s i off len cp) (.v (.int kd n)) = isP i off len n (rowo P t) := by
  unfold indexAddrV isP; rcases rowo P t with _ | ⟨_ | _, _, _⟩ <;> rfl
def ixP (P : Program) (cs : List V) (n : Int) : Option (Nat × TypeId × Nat) → Option (Prop × V)
  | some (len, e, z) => (partV P e cs (n.toNat * z)).map fun r => ((0 ≤ n ∧ n < (len : Int)) ∧ r.1, r.2)
  | none => none
@[go_sem] theorem ixP_some (cs : List V) (n : Int) (len e z : Nat) : ixP P cs n (some (len, e, z)) = (partV P e cs (n.toNat * z)).map fun r => ((0 ≤ n ∧ n < (len : Int)) ∧ r.1, r.2) := rfl
@[go_sem] theorem indexV_a (cs : List V) (n : Int) : indexV P t (.a cs) (.v (.int kd n)) = ixP P cs n (etyp P t) := by
  unfold indexV ixP; rcases etyp P t with _ | ⟨_, _, _⟩ <;> rfl
@[go_sem] theorem lenV_s (i off len : Nat) (cp : Cap) (h : slTy P t = true) : lenV P t (.s i off len cp) = some (True, .v (.int .i64 len)) := by simp [lenV, h]
@[go_sem] theorem lenV_n (n c : Nat) (h : slTy P t = true) : lenV P t (.v (.slice none n c)) = some (True, .v (.int .i64 n)) := by simp [lenV, h]
def cvP (n : Int) : Option TypeDesc → Option TypeDesc → Option (Prop × V)
  | some _, some (.int k) => some (fitI k n)
  | _, _ => none
@[go_sem] theorem cvP_some (n : Int) (u : TypeDesc) (k : IntKind) : cvP n (some u) (some (.int k)) = some (fitI k n) := rfl
@[go_sem] theorem convV_int (src : TypeId) (n : Int) : convV P src t (.v (.int kd n)) = cvP n (P.underlying src) (P.underlying t) := by
  unfold convV cvP; rcases P.underlying src with _ | _ <;> rcases P.underlying t with _ | (_ | _) <;> rfl
@[go_sem] theorem max2V_t (p q : Int) : max2V true (.v (.int kd p)) (.v (.int kd q)) = some (True, .v (.int kd (if q > p then q else p))) := rfl
@[go_sem] theorem max2V_f (p q : Int) : max2V false (.v (.int kd p)) (.v (.int kd q)) = some (True, .v (.int kd (if q < p then q else p))) := rfl
end

/- The heap. -/
def ldP (off : Nat) : Option Blk → Option Bool → Option Nat → Option (Prop × V)
  | some b, some true, some n => some (b.k.live = true ∧ off + n ≤ b.cells.length, .a (seg b.cells off n))
  | some b, some false, some _ => some (b.k.live = true ∧ off < b.cells.length, cel b.cells off)
  | _, _, _ => none
@[go_sem] theorem ldP_t (off n : Nat) (b : Blk) : ldP off (some b) (some true) (some n) = some (b.k.live = true ∧ off + n ≤ b.cells.length, .a (seg b.cells off n)) := rfl
@[go_sem] theorem ldP_f (off n : Nat) (b : Blk) : ldP off (some b) (some false) (some n) = some (b.k.live = true ∧ off < b.cells.length, cel b.cells off) := rfl
@[go_sem] theorem ldV_p (P : Program) (hp : List Blk) (t : TypeId) (i off : Nat) : ldV P hp t (.p i off) = ldP off hp[i]? (aggo P t) (szo P t) := by
  unfold ldV ldP; simp only []; generalize (hp[i]? : Option Blk) = o; rcases o with _ | _ <;> rcases aggo P t with _ | (_ | _) <;> rcases szo P t with _ | _ <;> rfl
def stP (hp : List Blk) (v : V) (i off : Nat) : Option Blk → Option Nat → Option (Prop × List Blk)
  | some b, some n => some (b.k.mut = true ∧ v.solid = true ∧ (cellsL v).length = n ∧ off + (cellsL v).length ≤ b.cells.length, hp.set i ⟨wr b.cells off (cellsL v), b.elem, b.k⟩)
  | _, _ => none
@[go_sem] theorem stP_some (hp : List Blk) (v : V) (i off n : Nat) (b : Blk) : stP hp v i off (some b) (some n) = some (b.k.mut = true ∧ v.solid = true ∧ (cellsL v).length = n ∧ off + (cellsL v).length ≤ b.cells.length, hp.set i ⟨wr b.cells off (cellsL v), b.elem, b.k⟩) := rfl
@[go_sem] theorem stV_p (P : Program) (hp : List Blk) (t : TypeId) (v : V) (i off : Nat) : stV P hp t v (.p i off) = stP hp v i off hp[i]? (szo P t) := by
  unfold stV stP; simp only []; generalize (hp[i]? : Option Blk) = o; rcases o with _ | _ <;> rcases szo P t with _ | _ <;> rfl
/- Whether a value is whole, and its cells. -/
section
variable (z : Value) (i o l : Nat) (cp : Cap) (cs : List V)
@[go_sem] theorem solid_v : V.solid (.v z) = true := rfl
@[go_sem] theorem solid_p : V.solid (.p i o) = true := rfl
@[go_sem] theorem solid_s : V.solid (.s i o l cp) = true := rfl
@[go_sem] theorem solid_f : V.solid (.f i cs) = true := rfl
@[go_sem] theorem cellsL_v : cellsL (.v z) = [.v z] := rfl
@[go_sem] theorem cellsL_p : cellsL (.p i o) = [.p i o] := rfl
@[go_sem] theorem cellsL_s : cellsL (.s i o l cp) = [.s i o l cp] := rfl
@[go_sem] theorem cellsL_a : cellsL (.a cs) = cs := rfl
@[go_sem] theorem cellsL_f : cellsL (.f i cs) = [.f i cs] := rfl
@[go_sem] theorem mut_fix : BK.fix.mut = true := rfl
@[go_sem] theorem mut_own : (BK.own i).mut = true := rfl
@[go_sem] theorem live_fix : BK.fix.live = true := rfl
@[go_sem] theorem live_own : (BK.own i).live = true := rfl
@[go_sem] theorem live_ro : BK.ro.live = true := rfl
end
theorem get_app {α : Type} {H L : List α} {i : Nat} {b : α} (h : H[i]? = some b) : (H ++ L)[i]? = some b := by
  rw [List.getElem?_append_left (List.getElem?_eq_some_iff.1 h).1]; exact h
theorem get_lt {α : Type} {H L : List α} {i : Nat} (h : i < H.length) : (H ++ L)[i]? = H[i]? := List.getElem?_append_left h
theorem get_at0 {α : Type} (H L : List α) : (H ++ L)[H.length]? = L[0]? := by rw [List.getElem?_append_right (Nat.le_refl _), Nat.sub_self]
theorem get_at {α : Type} (H L : List α) (n : Nat) : (H ++ L)[H.length + n]? = L[n]? := by rw [List.getElem?_append_right (Nat.le_add_right _ _), Nat.add_sub_cancel_left]
theorem get_zero {α : Type} (a : α) (L : List α) : (a :: L)[0]? = some a := rfl
theorem get_succ {α : Type} (a : α) (L : List α) (n : Nat) : (a :: L)[n + 1]? = L[n]? := rfl
theorem set_at0 {α : Type} (H L : List α) (b : α) : (H ++ L).set H.length b = H ++ L.set 0 b := by simp [List.set_append]
theorem set_at {α : Type} (H L : List α) (n : Nat) (b : α) : (H ++ L).set (H.length + n) b = H ++ L.set n b := by simp [List.set_append]
attribute [go_sem] get_lt get_at0 get_at get_zero get_succ set_at0 set_at List.set_cons_zero List.set_cons_succ

/- A loop, by what an index tells. -/
def Rof {ι : Type} (S : ι → St) (I : ι → Prop) (s : St) : Prop := ∃ i, I i ∧ s = S i
theorem least_nat {q : Nat → Prop} : ∀ n, q n → ∃ m, q m ∧ ∀ k, q k → m ≤ k := by
  intro n
  induction n using Nat.strongRecOn with
  | ind n ih =>
    intro hn
    by_cases h : ∃ k, k < n ∧ q k
    · obtain ⟨k, hk, hq⟩ := h; exact ih k hk hq
    · exact ⟨n, hn, fun k hk => Nat.le_of_not_lt fun hl => h ⟨k, hl, hk⟩⟩
theorem Mof_ex {ι : Type} (S : ι → St) (I : ι → Prop) (μ : ι → Nat) (s : St) : ∃ m, (∃ i, I i ∧ s = S i ∧ μ i = m) ∧ (∀ k, (∃ i, I i ∧ s = S i ∧ μ i = k) → m ≤ k) ∨ ¬ Rof S I s := by
  by_cases h : Rof S I s
  · obtain ⟨i, hi, e⟩ := h
    obtain ⟨m, h1, h2⟩ := least_nat (q := fun k => ∃ i, I i ∧ s = S i ∧ μ i = k) (μ i) ⟨i, hi, e, rfl⟩
    exact ⟨m, .inl ⟨h1, h2⟩⟩
  · exact ⟨0, .inr h⟩
noncomputable def Mof {ι : Type} (S : ι → St) (I : ι → Prop) (μ : ι → Nat) (s : St) : Nat := Classical.choose (Mof_ex S I μ s)
theorem Mof_le {ι : Type} {S : ι → St} {I : ι → Prop} {μ : ι → Nat} {i : ι} (h : I i) : Mof S I μ (S i) ≤ μ i := by
  rcases Classical.choose_spec (Mof_ex S I μ (S i)) with h1 | h1
  · exact h1.2 _ ⟨i, h, rfl, rfl⟩
  · exact absurd ⟨i, h, rfl⟩ h1
theorem Mof_at {ι : Type} {S : ι → St} {I : ι → Prop} {μ : ι → Nat} {s : St} (h : Rof S I s) : ∃ i, I i ∧ s = S i ∧ μ i = Mof S I μ s := by
  rcases Classical.choose_spec (Mof_ex S I μ s) with h1 | h1
  · exact h1.1
  · exact absurd h h1
theorem WK_for {P : Program} {x : Cx} {k : List Kt} {c : Code} {s : St} {ι : Type} (S : ι → St) (I : ι → Prop) (μ : ι → Nat) (i0 : ι) (h0 : Weak x.n0 s (S i0)) (hI : I i0)
    (h : ∀ i, I i → WK P x (.lp (Rof S I) (Mof S I μ) (μ i) :: k) c (S i)) : WK P x k (.loop c) s := by
  refine WK_loop P x k (Rof S I) (Mof S I μ) (S i0) h0 ⟨i0, hI, rfl⟩ fun s1 h1 => ?_
  obtain ⟨i, hi, rfl, hm⟩ := Mof_at (μ := μ) h1
  rw [← hm]
  exact h i hi
theorem EK_again {P : Program} {x : Cx} {k : List Kt} {s : St} {ι : Type} {S : ι → St} {I : ι → Prop} {μ : ι → Nat} {m : Nat} (i : ι) (h : Weak x.n0 s (S i)) (hI : I i) (hm : μ i < m) : EK P x (.lp (Rof S I) (Mof S I μ) m :: k) .normal s :=
  EK_lp_n P x k (S i) h ⟨i, hI, rfl⟩ (Nat.lt_of_le_of_lt (Mof_le hI) hm)

/- The slots forgotten. -/
def lessL : List V → List V → Prop
  | [], [] => True
  | a :: as, b :: bs => (b = .any ∨ a = b) ∧ lessL as bs
  | _, _ => False
@[go_sem] theorem lessL_nil : lessL [] [] = True := rfl
@[go_sem] theorem lessL_cons (a b : V) (as bs : List V) : lessL (a :: as) (b :: bs) = ((b = .any ∨ a = b) ∧ lessL as bs) := rfl
theorem lessL_len : ∀ (l m : List V), lessL l m → l.length = m.length
  | [], [], _ => rfl
  | _ :: as, _ :: bs, h => by simp [lessL_len as bs h.2]
  | [], _ :: _, h => h.elim
  | _ :: _, [], h => h.elim
theorem lessL_get : ∀ (l m : List V), lessL l m → ∀ (t : Nat) (v : V), m[t]? = some v → v = .any ∨ l[t]? = some v
  | [], [], _, _, _, h => by simp at h
  | a :: as, b :: bs, h, 0, v, hv => by
    simp at hv; subst hv
    rcases h.1 with h | h
    · exact .inl h
    · right; simp [h]
  | a :: as, b :: bs, h, t + 1, v, hv => by
    simp at hv ⊢
    exact lessL_get as bs h.2 t v hv
  | [], _ :: _, h, _, _, _ => h.elim
  | _ :: _, [], h, _, _, _ => h.elim
theorem Weak.slots {n0 : Nat} {sl sl' : List V} {hp : List Blk} (h : lessL sl sl') : Weak n0 ⟨sl, hp⟩ ⟨sl', hp⟩ := by
  intro E σ a w hE hr
  refine ⟨σ, ⟨hr.defers, by rw [hr.size]; exact lessL_len _ _ h, fun t v hv => ?_, fun v hv => ?_, hr.heap, hr.len, hr.agree, hr.fr, hr.new⟩⟩
  · rcases lessL_get _ _ h t v hv with h | h
    · exact .inl h
    · exact hr.slots t v h
  · obtain ⟨t, ht⟩ := List.mem_iff_getElem?.1 hv
    rcases lessL_get _ _ h t v ht with h | h
    · subst h; trivial
    · exact hr.lt v (List.mem_of_getElem? h)

/- The end. -/
def FK (F : V → Prop) : Option (Prop × List V) → Prop
  | some (p, vs) => p ∧ F (retV vs)
  | none => False
@[go_sem] theorem FK_some (F : V → Prop) (p : Prop) (vs : List V) : FK F (some (p, vs)) = (p ∧ F (retV vs)) := rfl
@[go_sem] theorem retV_one (v : V) : retV [v] = v := rfl
@[go_sem] theorem retV_two (v w : V) : retV [v, w] = .t [v, w] := rfl
@[go_sem] theorem retV_three (v w u : V) : retV [v, w, u] = .t [v, w, u] := rfl
@[go_sem] theorem resL_nil (P : Program) (s : St) : resL P s [] = some (True, []) := rfl
@[go_sem] theorem resL_tmp (P : Program) (s : St) (t : Tmp) (r : List ResultVar) : resL P s (.tmp t :: r) = (resL P s r).map fun q => ((nth s.slots t).solid = true ∧ q.1, nth s.slots t :: q.2) := rfl
def rcP (o : Option (Prop × List V)) : Option (Prop × V) → Option (Prop × List V)
  | some (p, v) => o.map fun q => (p ∧ q.1, v :: q.2)
  | none => none
@[go_sem] theorem rcP_some (o : Option (Prop × List V)) (p : Prop) (v : V) : rcP o (some (p, v)) = o.map fun q => (p ∧ q.1, v :: q.2) := rfl
@[go_sem] theorem resL_cell (P : Program) (s : St) (t : Tmp) (ty : TypeId) (r : List ResultVar) : resL P s (.cell t ty :: r) = rcP (resL P s r) (ldV P s.heap ty (nth s.slots t)) := by
  unfold rcP; rw [resL]; generalize ldV P s.heap ty (nth s.slots t) = o; rcases o with _ | ⟨_, _⟩ <;> rfl
section
variable {P : Program} {x : Cx} {R : V → List Blk → Prop} {H L : List Blk} {sl : List V} {rs : List ResultVar}
theorem ret_cut (hq : ∀ e s, fin P H.length rs R e s → x.Q e s) (hw : HWf H) (e : Exit) (he : e = .ret ∨ e = .normal) (h : FK (fun v => v.lt H.length ∧ R v H) (resL P ⟨sl, H ++ L⟩ rs)) : EK P x [] e ⟨sl, H ++ L⟩ := by
  refine hq _ _ ?_
  unfold FK at h
  split at h
  · rename_i p vs hr
    rcases he with rfl | rfl <;> (simp only [fin, hr]; exact ⟨h.1, _, _, Drop.cut _ _ _ _ rfl h.2.1 hw, h.2.2⟩)
  · exact h.elim
theorem ret_same (hq : ∀ e s, fin P H.length rs R e s → x.Q e s) (e : Exit) (he : e = .ret ∨ e = .normal) (h : FK (fun v => R v H) (resL P ⟨sl, H⟩ rs)) : EK P x [] e ⟨sl, H⟩ := by
  refine hq _ _ ?_
  unfold FK at h
  split at h
  · rename_i p vs hr
    rcases he with rfl | rfl <;> (simp only [fin, hr]; exact ⟨h.1, _, _, Drop.refl _ _ _ (Nat.le_refl _), h.2⟩)
  · exact h.elim
end

def junk : Nat → List V
  | 0 => []
  | n + 1 => .any :: junk n
@[go_sem] theorem junk_zero : junk 0 = [] := rfl
@[go_sem] theorem junk_succ (n : Nat) : junk (n + 1) = .any :: junk n := rfl
theorem junk_eq : ∀ n, junk n = List.replicate n .any
  | 0 => rfl
  | n + 1 => by rw [junk, junk_eq n, List.replicate_succ]
/-- THE LAW ON A FUNCTION. -/
theorem cal_fn {P : Program} {f : FuncId} {fn : Func} {c : Code} {args : List V} {H : List Blk} {R : V → List Blk → Prop} {nt : Nat} {rs : List ResultVar} (m : Nat)
    (hm : P.follows .mixedOrders = true) (hf : P.funcs[f]? = some fn) (hnt : fn.ntmps = nt) (hrs : fn.results = ⟨rs⟩) (hb : fn.body = some c) (hname : (fn.name != "runtime.NumGoroutine") = true) (hk : nt - args.length = m)
    (h : HWf H → ∀ x : Cx, x.n0 = H.length → (∀ e s, fin P H.length rs R e s → x.Q e s) → WK P x [] c ⟨args ++ junk m, H⟩) : Cal P f args H R := by
  refine cal_of hm hf hb hname hnt (by rw [hrs]) fun hw x hx hq => ?_
  rw [hk, ← junk_eq]
  exact h hw x hx hq
end Go.Sx
namespace Go.Sx
open Go.RowKit

/- A region that draws, walked in the text's order: the events so far stand in a list, the last one first. -/
def inL (k : Nat) : List Nat → Bool
  | [] => false
  | a :: l => if k = a then true else inL k l
theorem inL_mem {k : Nat} : ∀ {l : List Nat}, inL k l = true → k ∈ l
  | [], h => by cases h
  | a :: l, h => by
    unfold inL at h
    split at h
    · rename_i e; subst e; exact List.mem_cons_self ..
    · exact List.mem_cons_of_mem _ (inL_mem h)
def rdE (p : List Nat) (idx : Nat) : List (Nat × LE) → Prop
  | [] => True
  | (k, .wr j) :: L => (inL k p = true ∨ idx ≠ j) ∧ rdE p idx L
  | (k, .al j) :: L => (inL k p = true ∨ idx ≠ j) ∧ rdE p idx L
  | _ :: L => rdE p idx L
def wrE (p : List Nat) (idx : Nat) : List (Nat × LE) → Prop
  | [] => True
  | (k, .wr j) :: L => (inL k p = true ∨ idx ≠ j) ∧ wrE p idx L
  | (k, .al j) :: L => (inL k p = true ∨ idx ≠ j) ∧ wrE p idx L
  | (k, .rd j) :: L => (inL k p = true ∨ idx ≠ j) ∧ wrE p idx L
  | (k, .cl len hid) :: L => (inL k p = true ∨ idx ∈ hid ∨ len ≤ idx) ∧ wrE p idx L
  | _ :: L => wrE p idx L
def clE (p : List Nat) (hid : List Nat) : List (Nat × LE) → Prop
  | [] => True
  | (k, .wr j) :: L => (inL k p = true ∨ j ∈ hid) ∧ clE p hid L
  | (k, .al j) :: L => (inL k p = true ∨ j ∈ hid) ∧ clE p hid L
  | _ :: L => clE p hid L
def noE (p : List Nat) (vs : List V) : List (Nat × LE) → Prop
  | [] => True
  | (k, .al j) :: L => (inL k p = true ∨ norefs j vs = true) ∧ noE p vs L
  | _ :: L => noE p vs L

/-- The list tells all that the record tells. -/
def Lg (L : List (Nat × LE)) (log : List Tm) : Prop := ∀ (k : Nat) (e : LE), (log[k]?).map Tm.e = some e → e = .n ∨ (k, e) ∈ L
theorem Lg.nil : Lg [] [] := fun k e h => by simp at h
theorem Lg.quiet {L : List (Nat × LE)} {log : List Tm} (h : Lg L log) (v : V) (b : Option (Nat × Blk)) : Lg L (log ++ [⟨v, b, .n⟩]) := by
  intro k e hk
  rcases Nat.lt_trichotomy k log.length with hl | hl | hl
  · rw [List.getElem?_append_left hl] at hk; exact h k e hk
  · subst hl; rw [List.getElem?_append_right (Nat.le_refl _)] at hk; simp at hk; exact .inl hk.symm
  · rw [List.getElem?_eq_none (by simp; omega)] at hk; cases hk
theorem Lg.loud {L : List (Nat × LE)} {log : List Tm} (h : Lg L log) {i : Nat} (hi : log.length = i) (v : V) (b : Option (Nat × Blk)) (e : LE) : Lg ((i, e) :: L) (log ++ [⟨v, b, e⟩]) := by
  subst hi
  intro k e' hk
  rcases Nat.lt_trichotomy k log.length with hl | hl | hl
  · rw [List.getElem?_append_left hl] at hk
    rcases h k e' hk with h | h
    · exact .inl h
    · exact .inr (List.mem_cons_of_mem _ h)
  · subst hl; rw [List.getElem?_append_right (Nat.le_refl _)] at hk; simp at hk; subst hk; exact .inr (List.mem_cons_self ..)
  · rw [List.getElem?_eq_none (by simp; omega)] at hk; cases hk

theorem rdE_mem {p : List Nat} {idx : Nat} : ∀ {L : List (Nat × LE)}, rdE p idx L → ∀ k j, ((k, .wr j) ∈ L ∨ (k, .al j) ∈ L) → k ∈ p ∨ idx ≠ j
  | [], _, k, j, h => by simp at h
  | (k', e) :: L, hr, k, j, h => by
    rw [List.mem_cons, List.mem_cons] at h
    have hd : ((k, LE.wr j) = (k', e) ∨ (k, LE.al j) = (k', e)) ∨ ((k, LE.wr j) ∈ L ∨ (k, LE.al j) ∈ L) := by
      rcases h with (h | h) | (h | h)
      · exact .inl (.inl h)
      · exact .inr (.inl h)
      · exact .inl (.inr h)
      · exact .inr (.inr h)
    cases e with
    | n => rcases hd with (h | h) | h <;> first | (cases h; done) | exact rdE_mem (by simpa [rdE] using hr) k j h
    | rd a => rcases hd with (h | h) | h <;> first | (cases h; done) | exact rdE_mem (by simpa [rdE] using hr) k j h
    | cl a b => rcases hd with (h | h) | h <;> first | (cases h; done) | exact rdE_mem (by simpa [rdE] using hr) k j h
    | wr a =>
      simp only [rdE] at hr
      rcases hd with (h | h) | h
      · cases h; exact hr.1.imp inL_mem id
      · cases h
      · exact rdE_mem hr.2 k j h
    | al a =>
      simp only [rdE] at hr
      rcases hd with (h | h) | h
      · cases h
      · cases h; exact hr.1.imp inL_mem id
      · exact rdE_mem hr.2 k j h
theorem wrE_mem {p : List Nat} {idx : Nat} : ∀ {L : List (Nat × LE)}, wrE p idx L → ∀ k e, (k, e) ∈ L → match e with | .wr j => k ∈ p ∨ idx ≠ j | .al j => k ∈ p ∨ idx ≠ j | .rd j => k ∈ p ∨ idx ≠ j | .cl len hid => k ∈ p ∨ idx ∈ hid ∨ len ≤ idx | .n => True
  | [], _, k, j, h => by simp at h
  | (k', e') :: L, hr, k, e, h => by
    rw [List.mem_cons] at h
    rcases h with h | h
    · cases h
      cases e' <;> simp only [wrE] at hr <;> first | trivial | exact hr.1.imp inL_mem id
    · refine wrE_mem ?_ k e h
      cases e' <;> simp only [wrE] at hr <;> first | exact hr.2 | exact hr
theorem clE_mem {p hid : List Nat} : ∀ {L : List (Nat × LE)}, clE p hid L → ∀ k e, (k, e) ∈ L → match e with | .wr j => k ∈ p ∨ j ∈ hid | .al j => k ∈ p ∨ j ∈ hid | _ => True
  | [], _, k, j, h => by simp at h
  | (k', e') :: L, hr, k, e, h => by
    rw [List.mem_cons] at h
    rcases h with h | h
    · cases h
      cases e' <;> simp only [clE] at hr <;> first | trivial | exact hr.1.imp inL_mem id
    · refine clE_mem ?_ k e h
      cases e' <;> simp only [clE] at hr <;> first | exact hr.2 | exact hr
theorem noE_mem {p : List Nat} {vs : List V} : ∀ {L : List (Nat × LE)}, noE p vs L → ∀ k e, (k, e) ∈ L → match e with | .al j => k ∈ p ∨ norefs j vs = true | _ => True
  | [], _, k, j, h => by simp at h
  | (k', e') :: L, hr, k, e, h => by
    rw [List.mem_cons] at h
    rcases h with h | h
    · cases h
      cases e' <;> simp only [noE] at hr <;> first | trivial | exact hr.1.imp inL_mem id
    · refine noE_mem ?_ k e h
      cases e' <;> simp only [noE] at hr <;> first | exact hr.2 | exact hr

theorem okRd_of {p : List Nat} {idx : Nat} {L : List (Nat × LE)} {log : List Tm} (hg : Lg L log) (h : rdE p idx L) : ∀ n, okRd p idx log n
  | 0 => trivial
  | n + 1 => by
    refine ⟨okRd_of hg h n, ?_⟩
    cases he : (log[n]?).map Tm.e with
    | none => trivial
    | some e =>
      rcases hg n e he with h1 | h1
      · subst h1; trivial
      · cases e with
        | wr j => exact rdE_mem h n j (.inl h1)
        | al j => exact rdE_mem h n j (.inr h1)
        | _ => trivial
theorem okWr_of {p : List Nat} {idx : Nat} {L : List (Nat × LE)} {log : List Tm} (hg : Lg L log) (h : wrE p idx L) : ∀ n, okWr p idx log n
  | 0 => trivial
  | n + 1 => by
    refine ⟨okWr_of hg h n, ?_⟩
    cases he : (log[n]?).map Tm.e with
    | none => trivial
    | some e =>
      rcases hg n e he with h1 | h1
      · subst h1; trivial
      · have := wrE_mem h n e h1
        cases e <;> first | exact this | trivial
theorem okCl_of {p hid : List Nat} {L : List (Nat × LE)} {log : List Tm} (hg : Lg L log) (h : clE p hid L) : ∀ n, okCl p hid log n
  | 0 => trivial
  | n + 1 => by
    refine ⟨okCl_of hg h n, ?_⟩
    cases he : (log[n]?).map Tm.e with
    | none => trivial
    | some e =>
      rcases hg n e he with h1 | h1
      · subst h1; trivial
      · have := clE_mem h n e h1
        cases e <;> first | exact this | trivial
theorem okNo_of {p : List Nat} {vs : List V} {L : List (Nat × LE)} {log : List Tm} (hg : Lg L log) (h : noE p vs L) : ∀ n, okNo p vs log n
  | 0 => trivial
  | n + 1 => by
    refine ⟨okNo_of hg h n, ?_⟩
    cases he : (log[n]?).map Tm.e with
    | none => trivial
    | some e =>
      rcases hg n e he with h1 | h1
      · subst h1; trivial
      · have := noE_mem h n e h1
        cases e <;> first | exact this | trivial

section
variable (P : Program)
/-- Continuations of one operation. -/
abbrev Kz := List (Nat × LE) → St → Prop
def zPure (p : List Nat) (d : Option Tmp) (L : List (Nat × LE)) (s : St) (K : Kz) : Option (Prop × V) → Prop
  | some (q, v) => q ∧ noE p [v] L ∧ K L (s.put d v)
  | none => False
def zLoad (i : Nat) (p : List Nat) (d : Option Tmp) (t : TypeId) (L : List (Nat × LE)) (s : St) (K : Kz) : V → Prop
  | .p idx off => match ldV P s.heap t (.p idx off) with
    | some (q, v) => q ∧ rdE p idx L ∧ noE p [v] L ∧ K ((i, .rd idx) :: L) (s.put d v)
    | none => False
  | _ => False
def zStore (i : Nat) (p : List Nat) (d : Option Tmp) (L : List (Nat × LE)) (s : St) (K : Kz) : Option (Prop × Nat × Blk) → Prop
  | some (q, idx, b) => q ∧ wrE p idx L ∧ noE p b.cells L ∧ K ((i, .wr idx) :: L) (St.put ⟨s.slots, s.heap.set idx b⟩ d .any)
  | none => False
def zNew (i : Nat) (p : List Nat) (d : Option Tmp) (L : List (Nat × LE)) (s : St) (K : Kz) : Option (Prop × AV × Blk) → Prop
  | some (q, r, b) => q ∧ noE p b.cells L ∧ K ((i, .al s.heap.length) :: L) (St.put ⟨s.slots, s.heap ++ [b]⟩ d (r.at_ s.heap.length))
  | none => False
def zCall (i : Nat) (p : List Nat) (d : Option Tmp) (args : List V) (L : List (Nat × LE)) (s : St) (K : Kz) : V → Prop
  | .f n cs => args.all V.solid = true ∧ ∃ hid v, (callable P n = true ∧ Ret P n (args ++ cs) (hide hid s.heap) v (hide hid s.heap)) ∧ clE p hid L ∧ noE p [v] L ∧ V.lt s.heap.length v ∧ K ((i, .cl s.heap.length hid) :: L) (s.put d v)
  | _ => False
def MzOp (i : Nat) (p : List Nat) (o : Oper) (L : List (Nat × LE)) (s : St) (K : Kz) : Prop :=
  match o.op with
  | .load t x => zLoad P i p o.dst t L s K (ev s.slots x)
  | .store t x y => zStore i p o.dst L s K (stB P s.heap t (ev s.slots y) (ev s.slots x))
  | .call { callee := .value f, args := xs, argTypes := _ } => zCall P i p o.dst (xs.toList.map (ev s.slots)) L s K (ev s.slots f)
  | op => match newV P s.slots op with
    | some x => zNew i p o.dst L s K (some x)
    | none => zPure p o.dst L s K (pureV P s.slots op)
def Mz : (i : Nat) → List Oper → List (List Nat) → List (Nat × LE) → (ops : Array Oper) → (St → Prop) → St → Prop
  | _, [], _, _, _, F, s => F s
  | i, o :: r, q, L, ops, F, s => match guardV ops s.slots o with
    | some g => (g = true → MzOp P i (q.headD []) o L s fun L' s' => Mz (i + 1) r q.tail L' ops F s') ∧ (g = false → Mz (i + 1) r q.tail L ops F (s.put o.dst .any))
    | none => False

theorem MzOp_Wm {i : Nat} {pre : List (List Nat)} {o : Oper} {L : List (Nat × LE)} {log : List Tm} {s : St} {K : Kz} {K' : Tm → St → Prop} (h : MzOp P i (pr pre i) o L s K) (hg : Lg L log) (hl : log.length = i)
    (hk : ∀ L' rec s', K L' s' → Lg L' (log ++ [rec]) → K' rec s') : WmOp P pre i o log s K' := by
  unfold MzOp at h
  unfold WmOp
  split at h
  · rename_i t x he
    unfold zLoad at h
    rw [he]
    simp only
    split at h
    · rename_i idx off hv
      rw [hv]
      simp only
      split at h
      · rename_i q v hld
        rw [hld]
        exact ⟨h.1, okRd_of hg h.2.1 i, okNo_of hg h.2.2.1 i, hk _ _ _ h.2.2.2 (hg.loud hl _ _ _)⟩
      · exact h.elim
    · exact h.elim
  · rename_i t x y he
    rw [he]
    simp only
    unfold zStore at h
    split at h
    · rename_i q idx b hst
      rw [hst]
      exact ⟨h.1, okWr_of hg h.2.1 i, okNo_of hg h.2.2.1 i, hk _ _ _ h.2.2.2 (hg.loud hl _ _ _)⟩
    · exact h.elim
  · rename_i f xs ats he
    rw [he]
    simp only
    unfold zCall at h
    split at h
    · rename_i n cs hv
      rw [hv]
      obtain ⟨hs, hid, v, hc, h1, h2, h3, h4⟩ := h
      exact ⟨hs, hid, v, hc, okCl_of hg h1 i, okNo_of hg h2 i, h3, hk _ _ _ h4 (hg.loud hl _ _ _)⟩
    · exact h.elim
  · rename_i n1 n2 n3
    split
    · rename_i he; exact absurd he (n1 _ _)
    · rename_i he; exact absurd he (n2 _ _ _)
    · rename_i he; exact absurd he (n3 _ _ _)
    · split at h
      · rename_i x hx
        obtain ⟨q, r, b⟩ := x
        rw [hx]
        exact ⟨h.1, okNo_of hg h.2.1 i, hk _ _ _ h.2.2 (hg.loud hl _ _ _)⟩
      · rename_i hx
        rw [hx]
        unfold zPure at h
        split at h
        · rename_i q v hv
          rw [hv]
          exact ⟨h.1, okNo_of hg h.2.1 i, hk _ _ _ h.2.2 (hg.quiet _ _)⟩
        · exact h.elim

theorem Mz_Wm {ops : Array Oper} {pre : List (List Nat)} {F : St → Prop} : ∀ (r : List Oper) (i : Nat) (q : List (List Nat)) (L : List (Nat × LE)) (log : List Tm) (s : St), (∀ j, q.getD j [] = pr pre (i + j)) → Lg L log → log.length = i →
    Mz P i r q L ops F s → Wm P ops pre i r log F s
  | [], _, _, _, _, _, _, _, _, h => h
  | o :: r, i, q, L, log, s, hq, hg, hl, h => by
    unfold Mz at h
    unfold Wm
    have hh : q.headD [] = pr pre i := by have := hq 0; cases q <;> simpa using this
    have ht : ∀ j, q.tail.getD j [] = pr pre (i + 1 + j) := fun j => by
      have := hq (j + 1)
      rw [show i + 1 + j = i + (j + 1) by omega, ← this]
      cases q <;> simp
    split at h
    · rename_i g hgd
      simp only [hgd]
      refine ⟨fun e => ?_, fun e => ?_⟩
      · have := h.1 e
        rw [hh] at this
        exact MzOp_Wm P this hg hl fun L' rec s' hK hL => Mz_Wm r (i + 1) q.tail L' (log ++ [rec]) s' ht hL (by simp [hl]) hK
      · exact Mz_Wm r (i + 1) q.tail L _ _ ht (hg.quiet _ _) (by simp [hl]) (h.2 e)
    · exact h.elim
end
end Go.Sx
namespace Go.Sx
open Go.RowKit

def MK (P : Program) (x : Cx) (k : List Kt) (ops : Array Oper) (rest : List Oper) (i : Nat) (r : List Oper) (q : List (List Nat)) (L : List (Nat × LE)) (s : St) : Prop := Mz P i r q L ops (fun s' => LK P x k ops rest s') s
section
variable (P : Program) (x : Cx) (k : List Kt) (ops : Array Oper) (rest : List Oper) (i : Nat) (r : List Oper) (q : List (List Nat)) (p : List Nat) (d : Option Tmp) (L : List (Nat × LE)) (sl : List V) (hp : List Blk) (ty : TypeId) (pos : String) (af : Array Edge)
def MR (s : St) : Option (Prop × V) → Prop
  | some (pp, v) => pp ∧ noE p [v] L ∧ MK P x k ops rest (i + 1) r q L ⟨putS s.slots d v, s.heap⟩
  | none => False
def MD (idx : Nat) (s : St) : Option (Prop × V) → Prop
  | some (pp, v) => pp ∧ rdE p idx L ∧ noE p [v] L ∧ MK P x k ops rest (i + 1) r q ((i, .rd idx) :: L) ⟨putS s.slots d v, s.heap⟩
  | none => False
def ML (t : TypeId) (s : St) : V → Prop
  | .p idx off => MD P x k ops rest i r q p d L idx s (ldV P s.heap t (.p idx off))
  | _ => False
def MS (s : St) : Option (Prop × Nat × Blk) → Prop
  | some (pp, idx, b) => pp ∧ wrE p idx L ∧ noE p b.cells L ∧ MK P x k ops rest (i + 1) r q ((i, .wr idx) :: L) ⟨s.slots, s.heap.set idx b⟩
  | none => False
def MN (s : St) : Option (Prop × AV × Blk) → Prop
  | some (pp, a, b) => pp ∧ noE p b.cells L ∧ MK P x k ops rest (i + 1) r q ((i, .al s.heap.length) :: L) ⟨putS s.slots d (a.at_ s.heap.length), s.heap ++ [b]⟩
  | none => False
def MC (args : List V) (s : St) : V → Prop
  | .f n cs => args.all V.solid = true ∧ ∃ hid v, (callable P n = true ∧ Ret P n (args ++ cs) (hide hid s.heap) v (hide hid s.heap)) ∧ clE p hid L ∧ noE p [v] L ∧ V.lt s.heap.length v ∧ MK P x k ops rest (i + 1) r q ((i, .cl s.heap.length hid) :: L) ⟨putS s.slots d v, s.heap⟩
  | _ => False
def MG (op : Op) (s : St) : Option Bool → Prop
  | some g => (g = true → MK P x k ops rest i ({ dst := d, op := op, type := ty, pos := pos, after := af, guard := none } :: r) (p :: q) L s) ∧ (g = false → MK P x k ops rest (i + 1) r q L ⟨putS s.slots d .any, s.heap⟩)
  | none => False
theorem MK_nil (s : St) : MK P x k ops rest i [] q L s = LK P x k ops rest s := rfl
theorem MR_some (pp : Prop) (v : V) : MR P x k ops rest i r q p d L ⟨sl, hp⟩ (some (pp, v)) = (pp ∧ noE p [v] L ∧ MK P x k ops rest (i + 1) r q L ⟨putS sl d v, hp⟩) := rfl
theorem MD_some (idx : Nat) (pp : Prop) (v : V) : MD P x k ops rest i r q p d L idx ⟨sl, hp⟩ (some (pp, v)) = (pp ∧ rdE p idx L ∧ noE p [v] L ∧ MK P x k ops rest (i + 1) r q ((i, .rd idx) :: L) ⟨putS sl d v, hp⟩) := rfl
theorem ML_p (t : TypeId) (idx off : Nat) : ML P x k ops rest i r q p d L t ⟨sl, hp⟩ (.p idx off) = MD P x k ops rest i r q p d L idx ⟨sl, hp⟩ (ldV P hp t (.p idx off)) := rfl
theorem MS_some (pp : Prop) (idx : Nat) (b : Blk) : MS P x k ops rest i r q p L ⟨sl, hp⟩ (some (pp, idx, b)) = (pp ∧ wrE p idx L ∧ noE p b.cells L ∧ MK P x k ops rest (i + 1) r q ((i, .wr idx) :: L) ⟨sl, hp.set idx b⟩) := rfl
theorem MN_some (pp : Prop) (a : AV) (b : Blk) : MN P x k ops rest i r q p d L ⟨sl, hp⟩ (some (pp, a, b)) = (pp ∧ noE p b.cells L ∧ MK P x k ops rest (i + 1) r q ((i, .al hp.length) :: L) ⟨putS sl d (a.at_ hp.length), hp ++ [b]⟩) := rfl
theorem MG_some (op : Op) (s : St) (g : Bool) : MG P x k ops rest i r q p d L ty pos af op s (some g) = ((g = true → MK P x k ops rest i ({ dst := d, op := op, type := ty, pos := pos, after := af, guard := none } :: r) (p :: q) L s) ∧ (g = false → MK P x k ops rest (i + 1) r q L ⟨putS s.slots d .any, s.heap⟩)) := rfl
theorem MK_op (op : Op) : MK P x k ops rest i ({ dst := d, op := op, type := ty, pos := pos, after := af, guard := none } :: r) (p :: q) L ⟨sl, hp⟩ =
    MzOp P i p { dst := d, op := op, type := ty, pos := pos, after := af, guard := none } L ⟨sl, hp⟩ fun L' s' => MK P x k ops rest (i + 1) r q L' s' := by
  unfold MK
  rw [Mz]
  simp only [guardV, forall_const, false_implies, and_true, Bool.true_eq_false, List.headD_cons, List.tail_cons]
theorem MK_guard (op : Op) (g : Nat × Bool) : MK P x k ops rest i ({ dst := d, op := op, type := ty, pos := pos, after := af, guard := some g } :: r) (p :: q) L ⟨sl, hp⟩ =
    MG P x k ops rest i r q p d L ty pos af op ⟨sl, hp⟩ (guardV ops sl { dst := d, op := op, type := ty, pos := pos, after := af, guard := some g }) := by
  unfold MK
  rw [Mz]
  simp only
  split
  · rename_i b h
    rw [h]
    simp only [MG, List.headD_cons, List.tail_cons]
    congr 1
    · rw [MK_op]
      rfl
    · simp only [put_putS]; rfl
  · rename_i h; rw [h]; rfl
theorem MK_pure (op : Op) (o : Option (Prop × V)) (hn : newV P sl op = none) (ho : pureV P sl op = o) (h1 : ∀ t y, op ≠ .load t y) (h2 : ∀ t y z, op ≠ .store t y z) (h3 : ∀ f xs ats, op ≠ .call { callee := .value f, args := xs, argTypes := ats }) :
    MK P x k ops rest i ({ dst := d, op := op, type := ty, pos := pos, after := af, guard := none } :: r) (p :: q) L ⟨sl, hp⟩ = MR P x k ops rest i r q p d L ⟨sl, hp⟩ o := by
  rw [MK_op]
  unfold MzOp
  split
  · rename_i h; exact absurd h (h1 _ _)
  · rename_i h; exact absurd h (h2 _ _ _)
  · rename_i h; exact absurd h (h3 _ _ _)
  · simp only [hn, ho]
    cases o with
    | none => rfl
    | some y => obtain ⟨y1, y2⟩ := y; simp only [zPure, MR, put_putS]
theorem MK_new (op : Op) (o : Option (Prop × AV × Blk)) (hn : newV P sl op = o) (hs : o = none → pureV P sl op = none) (h1 : ∀ t y, op ≠ .load t y) (h2 : ∀ t y z, op ≠ .store t y z) (h3 : ∀ f xs ats, op ≠ .call { callee := .value f, args := xs, argTypes := ats }) :
    MK P x k ops rest i ({ dst := d, op := op, type := ty, pos := pos, after := af, guard := none } :: r) (p :: q) L ⟨sl, hp⟩ = MN P x k ops rest i r q p d L ⟨sl, hp⟩ o := by
  rw [MK_op]
  unfold MzOp
  split
  · rename_i h; exact absurd h (h1 _ _)
  · rename_i h; exact absurd h (h2 _ _ _)
  · rename_i h; exact absurd h (h3 _ _ _)
  · cases o with
    | none => simp only [hn, hs rfl]; rfl
    | some y => obtain ⟨y1, y2, y3⟩ := y; simp only [hn, zNew, MN, put_putS]
theorem MK_load (t : TypeId) (a : Operand) : MK P x k ops rest i ({ dst := d, op := .load t a, type := ty, pos := pos, after := af, guard := none } :: r) (p :: q) L ⟨sl, hp⟩ = ML P x k ops rest i r q p d L t ⟨sl, hp⟩ (ev sl a) := by
  rw [MK_op]
  unfold MzOp
  simp only [zLoad, ML]
  generalize ev sl a = v
  cases v with
  | p idx off =>
    simp only [MD]
    generalize ldV P hp t (.p idx off) = o
    rcases o with _ | ⟨_, _⟩
    · rfl
    · simp only [put_putS]
  | _ => rfl
theorem MK_store (t : TypeId) (a b : Operand) : MK P x k ops rest i ({ dst := none, op := .store t a b, type := ty, pos := pos, after := af, guard := none } :: r) (p :: q) L ⟨sl, hp⟩ = MS P x k ops rest i r q p L ⟨sl, hp⟩ (stB P hp t (ev sl b) (ev sl a)) := by
  rw [MK_op]
  unfold MzOp
  simp only
  cases stB P hp t (ev sl b) (ev sl a) with
  | none => rfl
  | some y => obtain ⟨y1, y2, y3⟩ := y; simp only [zStore, MS, St.put]
theorem MK_call (f : Operand) (xs : List Operand) (ats : Array TypeId) : MK P x k ops rest i ({ dst := d, op := .call { callee := .value f, args := ⟨xs⟩, argTypes := ats }, type := ty, pos := pos, after := af, guard := none } :: r) (p :: q) L ⟨sl, hp⟩ =
    MC P x k ops rest i r q p d L (xs.map (ev sl)) ⟨sl, hp⟩ (ev sl f) := by
  rw [MK_op]
  unfold MzOp
  simp only [zCall, MC]
  generalize ev sl f = v
  cases v with
  | f n cs => simp only [put_putS]
  | _ => rfl
/-- A call that leaves all as it is, by its contract. -/
theorem MC_ret {args : List V} {s : St} {n : Nat} {cs : List V} {v : V} (hc : Cal P n (args ++ cs) s.heap fun v1 H1 => v1 = v ∧ H1 = s.heap) (hs : args.all V.solid = true) (hl : V.lt s.heap.length v) (h : clE p [] L ∧ noE p [v] L ∧ MK P x k ops rest (i + 1) r q ((i, .cl s.heap.length []) :: L) ⟨putS s.slots d v, s.heap⟩) : MC P x k ops rest i r q p d L args s (.f n cs) := by
  have e : hide [] s.heap = s.heap := by
    apply List.ext_getElem?
    intro j
    rw [hide_get]
    cases s.heap[j]? <;> simp
  refine ⟨hs, [], v, ?_, h.1, h.2.1, hl, h.2.2⟩
  rw [e]
  exact ⟨hc.1, hc.2⟩
theorem DK_all {l : List Oper} {s : St} (pre : List (List Nat)) (hc : chk ⟨l⟩ pre l.length = true) (h : MK P x k ⟨l⟩ [] 0 l pre [] s) : DK P x k ⟨l⟩ s := by
  refine ⟨pre, l.length, hc, ?_⟩
  have e1 : (⟨l⟩ : Array Oper).toList.take l.length = l := by simp
  have e2 : (⟨l⟩ : Array Oper).toList.drop l.length = [] := by simp
  rw [e1, e2]
  exact Mz_Wm P l 0 pre [] [] s (fun j => by simp [pr]) Lg.nil rfl h
theorem DK_some {l : List Oper} {s : St} (pre : List (List Nat)) (N : Nat) (hc : chk ⟨l⟩ pre N = true) (h : MK P x k ⟨l⟩ (l.drop N) 0 (l.take N) pre [] s) : DK P x k ⟨l⟩ s := by
  refine ⟨pre, N, hc, ?_⟩
  exact Mz_Wm P (l.take N) 0 pre [] [] s (fun j => by simp [pr]) Lg.nil rfl h
theorem MK_move (y : Operand) : MK P x k ops rest i ({ dst := d, op := .move y, type := ty, pos := pos, after := af, guard := none } :: r) (p :: q) L ⟨sl, hp⟩ = MR P x k ops rest i r q p d L ⟨sl, hp⟩ (some (True, ev sl y)) :=
  MK_pure P x k ops rest i r q p d L sl hp ty pos af (.move y) _ rfl rfl (by intros; simp) (by intros; simp) (by intros; simp)
theorem MK_assign (y : Operand) : MK P x k ops rest i ({ dst := d, op := .assign y, type := ty, pos := pos, after := af, guard := none } :: r) (p :: q) L ⟨sl, hp⟩ = MR P x k ops rest i r q p d L ⟨sl, hp⟩ (some (True, ev sl y)) :=
  MK_pure P x k ops rest i r q p d L sl hp ty pos af (.assign y) _ rfl rfl (by intros; simp) (by intros; simp) (by intros; simp)
theorem MK_pick (c a b : Operand) : MK P x k ops rest i ({ dst := d, op := .pick c a b, type := ty, pos := pos, after := af, guard := none } :: r) (p :: q) L ⟨sl, hp⟩ = MR P x k ops rest i r q p d L ⟨sl, hp⟩ (pickB (ev sl a) (ev sl b) (ev sl c)) :=
  MK_pure P x k ops rest i r q p d L sl hp ty pos af (.pick c a b) _ rfl rfl (by intros; simp) (by intros; simp) (by intros; simp)
theorem MK_nilc (y : Operand) : MK P x k ops rest i ({ dst := d, op := .nilCheck y, type := ty, pos := pos, after := af, guard := none } :: r) (p :: q) L ⟨sl, hp⟩ = MR P x k ops rest i r q p d L ⟨sl, hp⟩ (nilV (ev sl y)) :=
  MK_pure P x k ops rest i r q p d L sl hp ty pos af (.nilCheck y) _ rfl rfl (by intros; simp) (by intros; simp) (by intros; simp)
theorem MK_bin (op : BinOp) (t u : TypeId) (a b : Operand) : MK P x k ops rest i ({ dst := d, op := .binOp op t a b u, type := ty, pos := pos, after := af, guard := none } :: r) (p :: q) L ⟨sl, hp⟩ = MR P x k ops rest i r q p d L ⟨sl, hp⟩ (binV P op t (ev sl a) (ev sl b)) :=
  MK_pure P x k ops rest i r q p d L sl hp ty pos af (.binOp op t a b u) _ rfl rfl (by intros; simp) (by intros; simp) (by intros; simp)
theorem MK_un (op : UnOp) (t : TypeId) (a : Operand) : MK P x k ops rest i ({ dst := d, op := .unOp op t a, type := ty, pos := pos, after := af, guard := none } :: r) (p :: q) L ⟨sl, hp⟩ = MR P x k ops rest i r q p d L ⟨sl, hp⟩ (unV op (ev sl a)) :=
  MK_pure P x k ops rest i r q p d L sl hp ty pos af (.unOp op t a) _ rfl rfl (by intros; simp) (by intros; simp) (by intros; simp)
theorem MK_conv (t u : TypeId) (a : Operand) : MK P x k ops rest i ({ dst := d, op := .convert t u a, type := ty, pos := pos, after := af, guard := none } :: r) (p :: q) L ⟨sl, hp⟩ = MR P x k ops rest i r q p d L ⟨sl, hp⟩ (convV P t u (ev sl a)) :=
  MK_pure P x k ops rest i r q p d L sl hp ty pos af (.convert t u a) _ rfl rfl (by intros; simp) (by intros; simp) (by intros; simp)
theorem MK_faddr (t : TypeId) (a : Operand) (f : Nat) : MK P x k ops rest i ({ dst := d, op := .fieldAddr t a f, type := ty, pos := pos, after := af, guard := none } :: r) (p :: q) L ⟨sl, hp⟩ = MR P x k ops rest i r q p d L ⟨sl, hp⟩ (fieldAddrV P t f (ev sl a)) :=
  MK_pure P x k ops rest i r q p d L sl hp ty pos af (.fieldAddr t a f) _ rfl rfl (by intros; simp) (by intros; simp) (by intros; simp)
theorem MK_field (t : TypeId) (a : Operand) (f : Nat) : MK P x k ops rest i ({ dst := d, op := .field t a f, type := ty, pos := pos, after := af, guard := none } :: r) (p :: q) L ⟨sl, hp⟩ = MR P x k ops rest i r q p d L ⟨sl, hp⟩ (fieldV P t f (ev sl a)) :=
  MK_pure P x k ops rest i r q p d L sl hp ty pos af (.field t a f) _ rfl rfl (by intros; simp) (by intros; simp) (by intros; simp)
theorem MK_iaddr (t : TypeId) (a b : Operand) : MK P x k ops rest i ({ dst := d, op := .indexAddr t a b, type := ty, pos := pos, after := af, guard := none } :: r) (p :: q) L ⟨sl, hp⟩ = MR P x k ops rest i r q p d L ⟨sl, hp⟩ (indexAddrV P t (ev sl a) (ev sl b)) :=
  MK_pure P x k ops rest i r q p d L sl hp ty pos af (.indexAddr t a b) _ rfl rfl (by intros; simp) (by intros; simp) (by intros; simp)
theorem MK_index (t : TypeId) (a b : Operand) : MK P x k ops rest i ({ dst := d, op := .index t a b, type := ty, pos := pos, after := af, guard := none } :: r) (p :: q) L ⟨sl, hp⟩ = MR P x k ops rest i r q p d L ⟨sl, hp⟩ (indexV P t (ev sl a) (ev sl b)) :=
  MK_pure P x k ops rest i r q p d L sl hp ty pos af (.index t a b) _ rfl rfl (by intros; simp) (by intros; simp) (by intros; simp)
theorem MK_extract (a : Operand) (j : Nat) : MK P x k ops rest i ({ dst := d, op := .extract a j, type := ty, pos := pos, after := af, guard := none } :: r) (p :: q) L ⟨sl, hp⟩ = MR P x k ops rest i r q p d L ⟨sl, hp⟩ (extractV j (ev sl a)) :=
  MK_pure P x k ops rest i r q p d L sl hp ty pos af (.extract a j) _ rfl rfl (by intros; simp) (by intros; simp) (by intros; simp)
theorem MK_len (a : Operand) (t : TypeId) : MK P x k ops rest i ({ dst := d, op := .call { callee := .builtin .len, args := ⟨[a]⟩, argTypes := ⟨[t]⟩ }, type := ty, pos := pos, after := af, guard := none } :: r) (p :: q) L ⟨sl, hp⟩ = MR P x k ops rest i r q p d L ⟨sl, hp⟩ (lenV P t (ev sl a)) :=
  MK_pure P x k ops rest i r q p d L sl hp ty pos af (.call { callee := .builtin .len, args := ⟨[a]⟩, argTypes := ⟨[t]⟩ }) _ rfl rfl (by intros; simp) (by intros; simp) (by intros; simp)
theorem MK_max (a b : Operand) (ts : Array TypeId) : MK P x k ops rest i ({ dst := d, op := .call { callee := .builtin .max, args := ⟨[a, b]⟩, argTypes := ts }, type := ty, pos := pos, after := af, guard := none } :: r) (p :: q) L ⟨sl, hp⟩ = MR P x k ops rest i r q p d L ⟨sl, hp⟩ (max2V true (ev sl a) (ev sl b)) :=
  MK_pure P x k ops rest i r q p d L sl hp ty pos af (.call { callee := .builtin .max, args := ⟨[a, b]⟩, argTypes := ts }) _ rfl rfl (by intros; simp) (by intros; simp) (by intros; simp)
theorem MK_min (a b : Operand) (ts : Array TypeId) : MK P x k ops rest i ({ dst := d, op := .call { callee := .builtin .min, args := ⟨[a, b]⟩, argTypes := ts }, type := ty, pos := pos, after := af, guard := none } :: r) (p :: q) L ⟨sl, hp⟩ = MR P x k ops rest i r q p d L ⟨sl, hp⟩ (max2V false (ev sl a) (ev sl b)) :=
  MK_pure P x k ops rest i r q p d L sl hp ty pos af (.call { callee := .builtin .min, args := ⟨[a, b]⟩, argTypes := ts }) _ rfl rfl (by intros; simp) (by intros; simp) (by intros; simp)
theorem MK_build (t : TypeId) (ps : List (Nat × Operand)) : MK P x k ops rest i ({ dst := d, op := .build t ⟨ps⟩, type := ty, pos := pos, after := af, guard := none } :: r) (p :: q) L ⟨sl, hp⟩ = MR P x k ops rest i r q p d L ⟨sl, hp⟩ (buildV P t (ps.map fun q => (q.1, ev sl q.2))) :=
  MK_pure P x k ops rest i r q p d L sl hp ty pos af (.build t ⟨ps⟩) _ rfl rfl (by intros; simp) (by intros; simp) (by intros; simp)
theorem MK_mkf (n : Nat) (cs : List Operand) : MK P x k ops rest i ({ dst := d, op := .makeFunc (.func n) ⟨[]⟩ ⟨cs⟩, type := ty, pos := pos, after := af, guard := none } :: r) (p :: q) L ⟨sl, hp⟩ = MR P x k ops rest i r q p d L ⟨sl, hp⟩ (some ((cs.map (ev sl)).all V.solid = true, .f n (cs.map (ev sl)))) :=
  MK_pure P x k ops rest i r q p d L sl hp ty pos af (.makeFunc (.func n) ⟨[]⟩ ⟨cs⟩) _ rfl rfl (by intros; simp) (by intros; simp) (by intros; simp)
theorem MK_alloc (t : TypeId) : MK P x k ops rest i ({ dst := d, op := .alloc t, type := ty, pos := pos, after := af, guard := none } :: r) (p :: q) L ⟨sl, hp⟩ = MN P x k ops rest i r q p d L ⟨sl, hp⟩ ((zeroL P t).map fun z => (True, .p, ⟨z, t, .fix⟩)) :=
  MK_new P x k ops rest i r q p d L sl hp ty pos af (.alloc t) _ rfl (fun _ => rfl) (by intros; simp) (by intros; simp) (by intros; simp)
theorem MK_box (t : TypeId) (a : Operand) : MK P x k ops rest i ({ dst := d, op := .box t a, type := ty, pos := pos, after := af, guard := none } :: r) (p :: q) L ⟨sl, hp⟩ = MN P x k ops rest i r q p d L ⟨sl, hp⟩ (some ((ev sl a).solid = true, .p, ⟨cellsL (ev sl a), t, .fix⟩)) :=
  MK_new P x k ops rest i r q p d L sl hp ty pos af (.box t a) _ rfl (fun _ => rfl) (by intros; simp) (by intros; simp) (by intros; simp)
theorem MK_bsl (t : TypeId) (len : Nat) (ps : List (Nat × Operand)) : MK P x k ops rest i ({ dst := d, op := .buildSlice t len ⟨ps⟩, type := ty, pos := pos, after := af, guard := none } :: r) (p :: q) L ⟨sl, hp⟩ = MN P x k ops rest i r q p d L ⟨sl, hp⟩ ((bslV P 0 t len (ps.map fun q => (q.1, ev sl q.2))).map fun q => (q.1, .s len (.u 0), q.2.2)) :=
  MK_new P x k ops rest i r q p d L sl hp ty pos af (.buildSlice t len ⟨ps⟩) _ rfl (fun _ => rfl) (by intros; simp) (by intros; simp) (by intros; simp)
def mkA (l n : Int) : Option (Prop × V × Blk) → Option (Prop × AV × Blk)
  | some (p, _, b) => some (p, .s l.toNat (.k n.toNat), b)
  | none => none
def mkB (t : TypeId) : V → V → Option (Prop × AV × Blk)
  | .v (.int k1 m), .v (.int k2 n) => mkA m n (mkV P 0 t (.v (.int k1 m)) (.v (.int k2 n)))
  | _, _ => none
theorem mkA_some (l n : Int) (p : Prop) (v : V) (b : Blk) : mkA l n (some (p, v, b)) = some (p, .s l.toNat (.k n.toNat), b) := rfl
theorem mkB_int (t : TypeId) (k1 k2 : IntKind) (m n : Int) : mkB P t (.v (.int k1 m)) (.v (.int k2 n)) = mkA m n (mkV P 0 t (.v (.int k1 m)) (.v (.int k2 n))) := rfl
theorem MK_mk (t : TypeId) (a b : Operand) : MK P x k ops rest i ({ dst := d, op := .makeSlice t a b, type := ty, pos := pos, after := af, guard := none } :: r) (p :: q) L ⟨sl, hp⟩ = MN P x k ops rest i r q p d L ⟨sl, hp⟩ (mkB P t (ev sl a) (ev sl b)) := by
  refine MK_new P x k ops rest i r q p d L sl hp ty pos af (.makeSlice t a b) _ ?_ (fun _ => rfl) (by intros; simp) (by intros; simp) (by intros; simp)
  simp only [newV]
  unfold mkB
  split
  · rename_i e1 e2; rw [e1, e2]; simp only; generalize mkV P 0 t _ _ = o; rcases o with _ | ⟨_, _, _⟩ <;> rfl
  · rename_i h
    split
    · rename_i e1 e2; exact absurd e2 (h _ _ _ _ e1)
    · rfl
end
section
variable {P : Program} {x : Cx} {k : List Kt} {ops : Array Oper} {rest : List Oper} {i : Nat} {r : List Oper} {q : List (List Nat)} {p : List Nat} {d : Option Tmp} {L L' : List (Nat × LE)} {s s' : St}
@[congr] theorem MK_congr (h : s = s') (hL : L = L') : MK P x k ops rest i r q L s = MK P x k ops rest i r q L' s' := by rw [h, hL]
@[congr] theorem MR_congr {o o' : Option (Prop × V)} (h : s = s') (hL : L = L') (ho : o = o') : MR P x k ops rest i r q p d L s o = MR P x k ops rest i r q p d L' s' o' := by rw [h, hL, ho]
@[congr] theorem MD_congr {idx idx' : Nat} {o o' : Option (Prop × V)} (hi : idx = idx') (h : s = s') (hL : L = L') (ho : o = o') : MD P x k ops rest i r q p d L idx s o = MD P x k ops rest i r q p d L' idx' s' o' := by rw [h, hL, ho, hi]
@[congr] theorem ML_congr {t : TypeId} {v v' : V} (h : s = s') (hL : L = L') (ho : v = v') : ML P x k ops rest i r q p d L t s v = ML P x k ops rest i r q p d L' t s' v' := by rw [h, hL, ho]
@[congr] theorem MS_congr {o o' : Option (Prop × Nat × Blk)} (h : s = s') (hL : L = L') (ho : o = o') : MS P x k ops rest i r q p L s o = MS P x k ops rest i r q p L' s' o' := by rw [h, hL, ho]
@[congr] theorem MN_congr {o o' : Option (Prop × AV × Blk)} (h : s = s') (hL : L = L') (ho : o = o') : MN P x k ops rest i r q p d L s o = MN P x k ops rest i r q p d L' s' o' := by rw [h, hL, ho]
@[congr] theorem MC_congr {l l' : List V} {v v' : V} (hl : l = l') (h : s = s') (hL : L = L') (ho : v = v') : MC P x k ops rest i r q p d L l s v = MC P x k ops rest i r q p d L' l' s' v' := by rw [h, hL, ho, hl]
@[congr] theorem MG_congr {op : Op} {ty : TypeId} {pos : String} {af : Array Edge} {o o' : Option Bool} (h : s = s') (hL : L = L') (ho : o = o') : MG P x k ops rest i r q p d L ty pos af op s o = MG P x k ops rest i r q p d L' ty pos af op s' o' := by rw [h, hL, ho]
end
def sbP (v : V) (i off : Nat) : Option Blk → Option Nat → Option (Prop × Nat × Blk)
  | some b, some n => some (b.k.mut = true ∧ v.solid = true ∧ (cellsL v).length = n ∧ off + (cellsL v).length ≤ b.cells.length, i, ⟨wr b.cells off (cellsL v), b.elem, b.k⟩)
  | _, _ => none
theorem sbP_some (v : V) (i off n : Nat) (b : Blk) : sbP v i off (some b) (some n) = some (b.k.mut = true ∧ v.solid = true ∧ (cellsL v).length = n ∧ off + (cellsL v).length ≤ b.cells.length, i, ⟨wr b.cells off (cellsL v), b.elem, b.k⟩) := rfl
theorem stB_p (P : Program) (hp : List Blk) (t : TypeId) (v : V) (i off : Nat) : stB P hp t v (.p i off) = sbP v i off hp[i]? (szo P t) := by
  unfold stB sbP; simp only []; generalize (hp[i]? : Option Blk) = o; rcases o with _ | _ <;> rcases szo P t with _ | _ <;> rfl
theorem at_p (n : Nat) : AV.p.at_ n = .p n 0 := rfl
theorem at_s (l : Nat) (c : Cap) (n : Nat) : (AV.s l c).at_ n = .s n 0 l c := rfl
/- The conditions. -/
section
variable (k a idx j : Nat) (l p hid : List Nat) (L : List (Nat × LE)) (vs : List V)
theorem inL_nil : inL k [] = false := rfl
theorem inL_cons : inL k (a :: l) = if k = a then true else inL k l := rfl
theorem rdE_nil : rdE p idx [] = True := rfl
theorem rdE_wr : rdE p idx ((k, .wr j) :: L) = ((inL k p = true ∨ idx ≠ j) ∧ rdE p idx L) := rfl
theorem rdE_al : rdE p idx ((k, .al j) :: L) = ((inL k p = true ∨ idx ≠ j) ∧ rdE p idx L) := rfl
theorem rdE_rd : rdE p idx ((k, .rd j) :: L) = rdE p idx L := rfl
theorem rdE_cl (n : Nat) : rdE p idx ((k, .cl n hid) :: L) = rdE p idx L := rfl
theorem wrE_nil : wrE p idx [] = True := rfl
theorem wrE_wr : wrE p idx ((k, .wr j) :: L) = ((inL k p = true ∨ idx ≠ j) ∧ wrE p idx L) := rfl
theorem wrE_al : wrE p idx ((k, .al j) :: L) = ((inL k p = true ∨ idx ≠ j) ∧ wrE p idx L) := rfl
theorem wrE_rd : wrE p idx ((k, .rd j) :: L) = ((inL k p = true ∨ idx ≠ j) ∧ wrE p idx L) := rfl
theorem wrE_cl (n : Nat) : wrE p idx ((k, .cl n hid) :: L) = ((inL k p = true ∨ idx ∈ hid ∨ n ≤ idx) ∧ wrE p idx L) := rfl
theorem clE_nil : clE p hid [] = True := rfl
theorem clE_wr : clE p hid ((k, .wr j) :: L) = ((inL k p = true ∨ j ∈ hid) ∧ clE p hid L) := rfl
theorem clE_al : clE p hid ((k, .al j) :: L) = ((inL k p = true ∨ j ∈ hid) ∧ clE p hid L) := rfl
theorem clE_rd : clE p hid ((k, .rd j) :: L) = clE p hid L := rfl
theorem clE_cl (n : Nat) (h2 : List Nat) : clE p hid ((k, .cl n h2) :: L) = clE p hid L := rfl
theorem noE_nil : noE p vs [] = True := rfl
theorem noE_wr : noE p vs ((k, .wr j) :: L) = noE p vs L := rfl
theorem noE_al : noE p vs ((k, .al j) :: L) = ((inL k p = true ∨ norefs j vs = true) ∧ noE p vs L) := rfl
theorem noE_rd : noE p vs ((k, .rd j) :: L) = noE p vs L := rfl
theorem noE_cl (n : Nat) (h2 : List Nat) : noE p vs ((k, .cl n h2) :: L) = noE p vs L := rfl
theorem norefs_nil : norefs j [] = true := rfl
theorem norefs_one (v : V) : norefs j [v] = V.noref j v := by simp [norefs]
theorem noref_v (z : Value) : V.noref j (.v z) = true := rfl
theorem noref_any : V.noref j .any = true := rfl
theorem noref_p (o : Nat) : V.noref j (.p idx o) = (idx != j) := rfl
theorem noref_s (o n : Nat) (c : Cap) : V.noref j (.s idx o n c) = (idx != j) := rfl
theorem noref_a : V.noref j (.a vs) = norefs j vs := by simp [V.noref]
theorem noref_t : V.noref j (.t vs) = norefs j vs := by simp [V.noref]
end
/- A guard. -/
def gvP (b : Bool) : V → Option Bool
  | .v (.bool y) => some (y == b)
  | _ => none
def guP (b : Bool) (sl : List V) : Option Tmp → Option Bool
  | some d => gvP b (nth sl d)
  | none => none
theorem gvP_t (y : Bool) : gvP true (.v (.bool y)) = some y := by cases y <;> rfl
theorem gvP_f (y : Bool) : gvP false (.v (.bool y)) = some (!y) := by cases y <;> rfl
theorem guP_some (b : Bool) (sl : List V) (d : Tmp) : guP b sl (some d) = gvP b (nth sl d) := rfl
theorem guardV_some (l : List Oper) (sl : List V) (d : Option Tmp) (op : Op) (ty : TypeId) (pos : String) (af : Array Edge) (j : Nat) (b : Bool) :
    guardV ⟨l⟩ sl { dst := d, op := op, type := ty, pos := pos, after := af, guard := some (j, b) } = guP b sl ((l[j]?).bind (·.dst)) := by
  unfold guardV guP gvP
  simp only [List.getElem?_toArray]
  generalize (l[j]?.bind fun x => x.dst) = o
  cases o <;> rfl
attribute [go_sem] MK_nil MR_some MD_some ML_p MS_some MN_some MG_some MK_guard MK_load MK_store MK_call MK_move MK_assign MK_pick MK_nilc MK_bin MK_un MK_conv MK_faddr MK_field MK_iaddr MK_index MK_extract MK_len MK_max MK_min MK_build MK_mkf MK_alloc MK_box MK_bsl gvP_t gvP_f guP_some guardV_some mkA_some mkB_int MK_mk sbP_some stB_p at_p at_s inL_nil inL_cons rdE_nil rdE_wr rdE_al rdE_rd rdE_cl wrE_nil wrE_wr wrE_al wrE_rd wrE_cl clE_nil clE_wr clE_al clE_rd clE_cl noE_nil noE_wr noE_al noE_rd noE_cl norefs_nil norefs_one noref_v noref_any noref_p noref_s noref_a noref_t Option.bind_some Bool.not_not true_or or_true false_or or_false bne_iff_ne ne_eq true_implies beq_self_eq_true Bool.and_self Bool.and_false Bool.false_and
end Go.Sx
namespace Go.Sx
open Go.RowKit

/-- n numbers of kind k. -/
def rowL (k : IntKind) (n : Nat) (f : Nat → Int) : List V := (List.range n).map fun j => .v (.int k (f j))
def upd (f : Nat → Int) (i : Nat) (x : Int) : Nat → Int := fun j => if j = i then x else f j
def allEq (n : Nat) (f g : Nat → Int) : Bool := (List.range n).all fun j => decide (f j = g j)
theorem allEq_iff {n : Nat} {f g : Nat → Int} : allEq n f g = true ↔ ∀ j, j < n → f j = g j := by simp [allEq]

section
variable (k : IntKind) (n m : Nat) (f g : Nat → Int) (c : List V)
@[go_sem] theorem rowL_length : (rowL k n f).length = n := by simp [rowL]
theorem rowL_get {j : Nat} (h : j < n) : (rowL k n f)[j]? = some (.v (.int k (f j))) := by simp [rowL, h]
theorem rowL_cel {j : Nat} (h : j < n) : cel (rowL k n f) j = .v (.int k (f j)) := by rw [cel, nth_eq, rowL_get k n f h]; rfl
theorem rowL_zero : rowL k 0 f = [] := rfl
theorem rowL_succ : rowL k (n + 1) f = rowL k n f ++ [.v (.int k (f n))] := by simp [rowL, List.range_succ]
theorem rowL_cons : rowL k (n + 1) f = .v (.int k (f 0)) :: rowL k n (fun j => f (j + 1)) := by simp [rowL, List.range_succ_eq_map, Function.comp_def]
theorem rowL_ext (h : ∀ j, j < n → f j = g j) : rowL k n f = rowL k n g := by
  unfold rowL; apply List.map_congr_left; intro j hj; rw [h j (List.mem_range.1 hj)]
theorem rowL_inj (h : rowL k n f = rowL k n g) : ∀ j, j < n → f j = g j := by
  intro j hj
  have := congrArg (fun l : List V => l[j]?) h
  simp only [rowL_get k n _ hj, Option.some.injEq, V.v.injEq, Value.int.injEq, true_and] at this
  exact this
theorem rowL_rep (x : Int) : List.replicate n (V.v (.int k x)) = rowL k n (fun _ => x) := by
  apply List.ext_getElem?; intro j
  rcases Nat.lt_or_ge j n with h | h
  · rw [rowL_get k n _ h]; simp [h]
  · rw [List.getElem?_eq_none (by simpa using h), List.getElem?_eq_none (by simpa [rowL] using h)]
@[go_sem] theorem rowL_seg : seg (rowL k n f) 0 n = rowL k n f := by unfold seg; rw [List.drop_zero, List.take_of_length_le]; simp [rowL]
@[go_sem] theorem rowL_segl : seg (rowL k n f ++ c) 0 n = rowL k n f := by unfold seg; rw [List.drop_zero, List.take_append_of_le_length (by simp [rowL]), List.take_of_length_le]; simp [rowL]
@[go_sem] theorem rowL_segr : seg (rowL k n f ++ c) n m = seg c 0 m := by unfold seg; rw [List.drop_append_of_le_length (by simp [rowL]), List.drop_of_length_le (by simp [rowL])]; simp
theorem rowL_cell {j : Nat} (h : j < n) : cel (rowL k n f ++ c) j = .v (.int k (f j)) := by
  rw [cel, nth_eq, List.getElem?_append_left (by simpa [rowL] using h), rowL_get k n f h]; rfl
theorem rowL_celr {j : Nat} : cel (rowL k n f ++ c) (n + j) = cel c j := by
  rw [cel, nth_eq, List.getElem?_append_right (by simp [rowL]), cel, nth_eq]; simp [rowL]
theorem rowL_wr {j : Nat} (h : j < n) (x : Int) : wr (rowL k n f) j [.v (.int k x)] = rowL k n (upd f j x) := by
  have hl : j + [V.v (.int k x)].length ≤ (rowL k n f).length := by rw [rowL_length]; exact h
  apply List.ext_getElem?; intro i
  rcases Nat.lt_or_ge i n with hi | hi
  · rw [rowL_get k n _ hi]
    unfold wr upd
    rcases Nat.lt_trichotomy i j with h1 | h1 | h1
    · rw [List.append_assoc, List.getElem?_append_left (by simp [rowL]; omega), List.getElem?_take, if_pos h1, rowL_get k n f hi, if_neg (by omega)]
    · subst h1; rw [List.append_assoc, List.getElem?_append_right (by simp [rowL]; omega)]; simp [rowL, Nat.min_eq_left (Nat.le_of_lt hi)]
    · rw [List.getElem?_append_right (by simp [rowL]; omega), List.getElem?_drop, if_neg (by omega)]
      have : j + [V.v (.int k x)].length + (i - (List.take j (rowL k n f) ++ [V.v (.int k x)]).length) = i := by simp [rowL]; omega
      rw [this, rowL_get k n f hi]
  · rw [List.getElem?_eq_none, List.getElem?_eq_none (by simpa [rowL] using hi)]
    rw [wr_length hl]; simpa [rowL] using hi
@[go_sem] theorem rowL_okV : okV (List.replicate n (.i k)) (rowL k n f) = true := by
  induction n generalizing f with
  | zero => rfl
  | succ n ih => rw [rowL_cons, List.replicate_succ]; simp [okV, ih]
theorem okV_app {ks ls : List KD} {xs ys : List V} (h : okV ks xs = true) (h' : okV ls ys = true) : okV (ks ++ ls) (xs ++ ys) = true := by
  induction ks generalizing xs with
  | nil => have := okV_len h; cases xs with
    | nil => exact h'
    | cons _ _ => simp at this
  | cons a ks ih =>
    cases xs with
    | nil => have := okV_len h; simp at this
    | cons x xs =>
      cases a with
      | b => cases x with
        | v z => cases z <;> simp only [okV, Bool.false_eq_true] at h; simp only [List.cons_append, okV]; exact ih h
        | _ => simp [okV] at h
      | i q => cases x with
        | v z => cases z <;> simp only [okV, Bool.false_eq_true, Bool.and_eq_true] at h; simp only [List.cons_append, okV, Bool.and_eq_true]; exact ⟨h.1, ih h.2⟩
        | _ => simp [okV] at h
@[go_sem] theorem rowL_okV2 : okV (List.replicate (n + m) (.i k)) (rowL k n f ++ rowL k m g) = true := by
  rw [← List.replicate_append_replicate]; exact okV_app (rowL_okV k n f) (rowL_okV k m g)
@[go_sem] theorem rowL_eqL (k' : IntKind) : eqL (rowL k n f) (rowL k' n g) = allEq n f g := by
  induction n generalizing f g with
  | zero => rfl
  | succ n ih =>
    rw [rowL_cons, rowL_cons, eqL, ih]
    simp [allEq, List.range_succ_eq_map, Function.comp_def]
theorem rowL_eqL2 (c' : List V) : eqL (rowL k n f ++ c) (rowL k n g ++ c') = (allEq n f g && eqL c c') := by
  rw [eqL_append (rowL_okV k n f) (rowL_okV k n g), rowL_eqL]
theorem rowL_mem {x : V} (h : x ∈ rowL k n f) : ∃ j, j < n ∧ x = .v (.int k (f j)) := by
  unfold rowL at h
  obtain ⟨j, hj, rfl⟩ := List.mem_map.1 h
  exact ⟨j, List.mem_range.1 hj, rfl⟩
@[go_sem] theorem rowL_lts : lts m (rowL k n f) = True := by
  apply eq_true; rw [lts_iff]; intro x hx; obtain ⟨j, _, rfl⟩ := rowL_mem k n f hx; rfl
@[go_sem] theorem rowL_one : (rowL k n f).all V.one = true := by
  rw [List.all_eq_true]; intro x hx; obtain ⟨j, _, rfl⟩ := rowL_mem k n f hx; rfl
@[go_sem] theorem rowL_norefs : norefs m (rowL k n f) = true := by
  rw [norefs_all, List.all_eq_true]; intro x hx; obtain ⟨j, _, rfl⟩ := rowL_mem k n f hx; rfl
end
@[go_sem] theorem lt_a (m : Nat) (cs : List V) : V.lt m (.a cs) = (lts m cs ∧ cs.all V.one = true) := by simp [V.lt]
@[go_sem] theorem lt_t (m : Nat) (cs : List V) : V.lt m (.t cs) = lts m cs := by simp [V.lt]
@[go_sem] theorem lt_int (m : Nat) (k : IntKind) (n : Int) : V.lt m (.v (.int k n)) = True := eq_true rfl
@[go_sem] theorem lt_bool (m : Nat) (b : Bool) : V.lt m (.v (.bool b)) = True := eq_true rfl
@[go_sem] theorem lt_str (m : Nat) (b : ByteArray) : V.lt m (.v (.string b)) = True := eq_true rfl
@[go_sem] theorem lts_nil (m : Nat) : lts m [] = True := by simp [lts]
@[go_sem] theorem lts_cons (m : Nat) (x : V) (xs : List V) : lts m (x :: xs) = (V.lt m x ∧ lts m xs) := by simp [lts]
@[go_sem] theorem lts_app (m : Nat) (xs ys : List V) : lts m (xs ++ ys) = (lts m xs ∧ lts m ys) := by
  simp only [lts_iff, List.mem_append]; apply propext; constructor
  · intro h; exact ⟨fun x hx => h x (.inl hx), fun x hx => h x (.inr hx)⟩
  · rintro ⟨h1, h2⟩ x (hx | hx)
    · exact h1 x hx
    · exact h2 x hx
@[go_sem] theorem norefs_app (m : Nat) (xs ys : List V) : norefs m (xs ++ ys) = (norefs m xs && norefs m ys) := by simp [norefs_all]
@[go_sem] theorem norefs_cons (m : Nat) (x : V) (xs : List V) : norefs m (x :: xs) = (V.noref m x && norefs m xs) := by simp [norefs_all]
attribute [go_sem] List.all_append List.all_cons List.all_nil Bool.and_true Bool.true_and Bool.and_eq_true
@[go_sem] theorem one_int (k : IntKind) (n : Int) : V.one (.v (.int k n)) = true := rfl
@[go_sem] theorem one_bool (b : Bool) : V.one (.v (.bool b)) = true := rfl
@[go_sem] theorem solid_a (cs : List V) : V.solid (.a cs) = true := rfl

/-- Block i holds the cells cs from off on. -/
structure At (H : List Blk) (i off : Nat) (cs : List V) (b : Blk) : Prop where
  get : H[i]? = some b
  live : b.k.live = true
  sg : seg b.cells off cs.length = cs
theorem seg_len {cs : List V} {off n : Nat} (h : (seg cs off n).length = n) (hn : 0 < n) : off + n ≤ cs.length := by
  unfold seg at h; rw [List.length_take, List.length_drop] at h; omega
theorem At.len {H : List Blk} {i off : Nat} {cs : List V} {b : Blk} (h : At H i off cs b) (hn : 0 < cs.length) : off + cs.length ≤ b.cells.length := seg_len (by rw [h.sg]) hn
theorem At.cel {H : List Blk} {i off : Nat} {k : IntKind} {n : Nat} {f : Nat → Int} {b : Blk} (h : At H i off (rowL k n f) b) {j : Nat} (hj : j < n) : cel b.cells (off + j) = .v (.int k (f j)) := by
  have h1 : (seg b.cells off (rowL k n f).length)[j]? = some (.v (.int k (f j))) := by rw [h.sg]; exact rowL_get k n f hj
  unfold seg at h1
  rw [rowL_length, List.getElem?_take, if_pos hj, List.getElem?_drop] at h1
  rw [Go.Sx.cel, nth_eq, h1]; rfl
theorem At.lt {H : List Blk} {i off : Nat} {cs : List V} {b : Blk} (h : At H i off cs b) : i < H.length := (List.getElem?_eq_some_iff.1 h.get).1
theorem At.app {H L : List Blk} {i off : Nat} {cs : List V} {b : Blk} (h : At H i off cs b) : At (H ++ L) i off cs b := ⟨get_app h.get, h.live, h.sg⟩
theorem seg_app (a b : List V) : seg (a ++ b) 0 a.length = a := by unfold seg; simp
/-- A part of it. -/
theorem At.left {H : List Blk} {i off : Nat} {cs ds : List V} {b : Blk} (h : At H i off (cs ++ ds) b) : At H i off cs b := by
  refine ⟨h.get, h.live, ?_⟩
  have := congrArg (List.take cs.length) h.sg
  unfold seg at this ⊢
  rw [List.take_take, List.length_append, Nat.min_eq_left (by omega)] at this
  rw [this]; simp
theorem At.right {H : List Blk} {i off : Nat} {cs ds : List V} {b : Blk} (h : At H i off (cs ++ ds) b) : At H i (off + cs.length) ds b := by
  refine ⟨h.get, h.live, ?_⟩
  have := congrArg (List.drop cs.length) h.sg
  unfold seg at this ⊢
  rw [List.drop_take, List.drop_drop, List.length_append, Nat.add_sub_cancel_left] at this
  rw [this]; simp
theorem At.mk' {H L : List Blk} {cs : List V} {t : TypeId} {k : BK} (n : Nat) (h : L[n]? = some ⟨cs, t, k⟩) (hk : k.live = true) : At (H ++ L) (H.length + n) 0 cs ⟨cs, t, k⟩ :=
  ⟨by rw [get_at]; exact h, hk, by unfold seg; simp⟩
theorem At.mk0 {H L : List Blk} {cs : List V} {t : TypeId} {k : BK} (hk : k.live = true) : At (H ++ ⟨cs, t, k⟩ :: L) H.length 0 cs ⟨cs, t, k⟩ :=
  ⟨by rw [get_at0]; rfl, hk, by unfold seg; simp⟩

section
variable {P : Program} {x : Cx} {k : List Kt} {ops : Array Oper} {rest r : List Oper} {i : Nat} {q : List (List Nat)} {p : List Nat} {d : Option Tmp} {L : List (Nat × LE)} {sl : List V} {hp : List Blk}
theorem call_ret {args : List V} {n : Nat} {cs : List V} {v : V} {H' : List Blk} (hc : Cal P n (args ++ cs) hp fun v1 H1 => v1 = v ∧ H1 = H') (hs : args.all V.solid = true) (h : LK P x k ops r ⟨putS sl d v, H'⟩) : SK P x k ops r d args ⟨sl, hp⟩ (.f n cs) :=
  SK_ret P x k ops r d hc hs h
theorem mcall_ret {args : List V} {n : Nat} {cs : List V} {v : V} (hc : Cal P n (args ++ cs) hp fun v1 H1 => v1 = v ∧ H1 = hp) (hs : args.all V.solid = true) (hl : V.lt hp.length v) (h : clE p [] L ∧ noE p [v] L ∧ MK P x k ops rest (i + 1) r q ((i, .cl hp.length []) :: L) ⟨putS sl d v, hp⟩) : MC P x k ops rest i r q p d L args ⟨sl, hp⟩ (.f n cs) :=
  MC_ret P x k ops rest i r q p d L hc hs hl h
end
end Go.Sx
namespace Go.Sx
open Go.RowKit

/- Values built of parts. -/
section
variable (P : Program) (n : Nat) (t : TypeId)
def fpP (place : Nat → Option (Nat × Nat)) (cells : List V) (x : V) (r : List (Nat × V)) : Option (Nat × Nat) → Option (Prop × List V)
  | some (off, size) => (fillV place (wr cells off (cellsL x)) r).map fun q => ((x.solid = true ∧ (cellsL x).length = size ∧ off + (cellsL x).length ≤ cells.length) ∧ q.1, q.2)
  | none => none
theorem fillV_nil (place : Nat → Option (Nat × Nat)) (cells : List V) : fillV place cells [] = some (True, cells) := rfl
theorem fillV_cons (place : Nat → Option (Nat × Nat)) (cells : List V) (i : Nat) (x : V) (r : List (Nat × V)) : fillV place cells ((i, x) :: r) = fpP place cells x r (place i) := by
  rw [fillV]; unfold fpP; cases place i with
  | none => rfl
  | some y => rfl
theorem fpP_some (place : Nat → Option (Nat × Nat)) (cells : List V) (x : V) (r : List (Nat × V)) (off size : Nat) : fpP place cells x r (some (off, size)) = (fillV place (wr cells off (cellsL x)) r).map fun q => ((x.solid = true ∧ (cellsL x).length = size ∧ off + (cellsL x).length ≤ cells.length) ∧ q.1, q.2) := rfl
theorem place_st (l : List (Nat × Nat)) (i : Nat) : (Bld.st l).place i = l[i]? := rfl
theorem place_ar (z i : Nat) : (Bld.ar z).place i = some (i * z, z) := rfl
def blP (parts : List (Nat × V)) : Option Bld → Option (List V) → Option (Prop × V)
  | some b, some z => (fillV b.place z parts).map fun q => (q.1, .a q.2)
  | _, _ => none
theorem blP_some (parts : List (Nat × V)) (b : Bld) (z : List V) : blP parts (some b) (some z) = (fillV b.place z parts).map fun q => (q.1, .a q.2) := rfl
theorem buildV_eq (parts : List (Nat × V)) : buildV P t parts = blP parts (bld P t) (zeroL P t) := by
  unfold buildV blP; rcases bld P t with _ | _ <;> rcases zeroL P t with _ | _ <;> rfl
def bqP (P : Program) (n len : Nat) (parts : List (Nat × V)) (e z : Nat) : Option (List V) → Option (Prop × V × Blk)
  | some zs => (fillV (fun i => some (i * z, z)) (zerosL zs len) parts).map fun q => ((len * z ≤ 16777216 ∧ q.1), .s n 0 len (.u 0), ⟨q.2, e, .own z⟩)
  | none => none
def bsP (P : Program) (n len : Nat) (parts : List (Nat × V)) : Option (TypeId × Nat × Nat) → Option (Prop × V × Blk)
  | some (e, z, _) => bqP P n len parts e z (zeroL P e)
  | none => none
theorem bqP_some (len : Nat) (parts : List (Nat × V)) (e z : Nat) (zs : List V) : bqP P n len parts e z (some zs) = (fillV (fun i => some (i * z, z)) (zerosL zs len) parts).map fun q => ((len * z ≤ 16777216 ∧ q.1), .s n 0 len (.u 0), ⟨q.2, e, .own z⟩) := rfl
theorem bsP_some (len : Nat) (parts : List (Nat × V)) (e z b : Nat) : bsP P n len parts (some (e, z, b)) = bqP P n len parts e z (zeroL P e) := rfl
theorem bslV_eq (len : Nat) (parts : List (Nat × V)) : bslV P n t len parts = bsP P n len parts (slo P t) := by
  unfold bslV bsP bqP; rcases slo P t with _ | ⟨e, _, _⟩
  · rfl
  · simp only; cases zeroL P e <;> rfl
def mqP (n : Nat) (l c : Int) (e b : Nat) : Option (List V) → Option (Prop × V × Blk)
  | some zs => some (0 ≤ l ∧ l ≤ c ∧ c ≤ 140737488355328 ∧ c * b ≤ 281474976710656, .s n 0 l.toNat (.k c.toNat), ⟨zerosL zs c.toNat, e, .fix⟩)
  | none => none
def mmP (P : Program) (n : Nat) (l c : Int) : Option (TypeId × Nat × Nat) → Option (Prop × V × Blk)
  | some (e, _, b) => mqP n l c e b (zeroL P e)
  | none => none
theorem mqP_some (l c : Int) (e b : Nat) (zs : List V) : mqP n l c e b (some zs) = some (0 ≤ l ∧ l ≤ c ∧ c ≤ 140737488355328 ∧ c * b ≤ 281474976710656, .s n 0 l.toNat (.k c.toNat), ⟨zerosL zs c.toNat, e, .fix⟩) := rfl
theorem mmP_some (l c : Int) (e z b : Nat) : mmP P n l c (some (e, z, b)) = mqP n l c e b (zeroL P e) := rfl
theorem mkV_int (k1 k2 : IntKind) (l c : Int) : mkV P n t (.v (.int k1 l)) (.v (.int k2 c)) = mmP P n l c (slo P t) := by
  unfold mkV mmP mqP; rcases slo P t with _ | ⟨e, _, _⟩
  · rfl
  · simp only; cases zeroL P e <;> rfl

/- Slices of slices. -/
def skP (i off len c : Nat) : Option (Option Int) → Option (Option Int) → Option (Option Int) → Option (Bool × Nat × Nat) → Option (Prop × V)
  | some l, some h, some m, some (false, _, z) => some (0 ≤ l.getD 0 ∧ l.getD 0 ≤ h.getD len ∧ h.getD len ≤ m.getD c ∧ m.getD c ≤ c ∧ (m = none ∨ h.isSome = true), .s i (if (m.getD c).toNat = (l.getD 0).toNat then off else off + (l.getD 0).toNat * z) ((h.getD len).toNat - (l.getD 0).toNat) (.k ((m.getD c).toNat - (l.getD 0).toNat)))
  | _, _, _, _ => none
theorem skP_some (i off len c : Nat) (l h m : Option Int) (w z : Nat) : skP i off len c (some l) (some h) (some m) (some (false, w, z)) = some (0 ≤ l.getD 0 ∧ l.getD 0 ≤ h.getD len ∧ h.getD len ≤ m.getD c ∧ m.getD c ≤ c ∧ (m = none ∨ h.isSome = true), .s i (if (m.getD c).toNat = (l.getD 0).toNat then off else off + (l.getD 0).toNat * z) ((h.getD len).toNat - (l.getD 0).toNat) (.k ((m.getD c).toNat - (l.getD 0).toNat))) := rfl
theorem sliceV_k (i off len c : Nat) (lo hi mx : Option V) : sliceV P t (.s i off len (.k c)) lo hi mx = skP i off len c (bnd lo) (bnd hi) (bnd mx) (rowo P t) := by
  unfold sliceV skP
  rcases bnd lo with _ | l <;> rcases bnd hi with _ | h <;> rcases bnd mx with _ | m <;> rcases rowo P t with _ | ⟨_ | _, _, _⟩ <;> rfl
def suP (i off len c : Nat) : Option (Option Int) → Option (Option Int) → Option (Option Int) → Option (Bool × Nat × Nat) → Option (Prop × V)
  | some l, some h, some none, some (false, _, z) => some (0 ≤ l.getD 0 ∧ l.getD 0 ≤ h.getD len ∧ h.getD len ≤ len ∧ (l.getD 0 = 0 ∨ l.getD 0 < len), .s i (off + (l.getD 0).toNat * z) ((h.getD len).toNat - (l.getD 0).toNat) (.u (c + (l.getD 0).toNat)))
  | _, _, _, _ => none
theorem suP_some (i off len c : Nat) (l h : Option Int) (w z : Nat) : suP i off len c (some l) (some h) (some none) (some (false, w, z)) = some (0 ≤ l.getD 0 ∧ l.getD 0 ≤ h.getD len ∧ h.getD len ≤ len ∧ (l.getD 0 = 0 ∨ l.getD 0 < len), .s i (off + (l.getD 0).toNat * z) ((h.getD len).toNat - (l.getD 0).toNat) (.u (c + (l.getD 0).toNat))) := rfl
theorem sliceV_u (i off len c : Nat) (lo hi mx : Option V) : sliceV P t (.s i off len (.u c)) lo hi mx = suP i off len c (bnd lo) (bnd hi) (bnd mx) (rowo P t) := by
  unfold sliceV suP
  rcases bnd lo with _ | l <;> rcases bnd hi with _ | h <;> rcases bnd mx with _ | (_ | m) <;> rcases rowo P t with _ | ⟨_ | _, _, _⟩ <;> rfl
def spP (i off : Nat) : Option (Option Int) → Option (Option Int) → Option (Option Int) → Option (Bool × Nat × Nat) → Option (Prop × V)
  | some l, some h, some none, some (true, n, z) => some (0 ≤ l.getD 0 ∧ l.getD 0 ≤ h.getD n ∧ h.getD n ≤ n, .s i (if n = (l.getD 0).toNat then off else off + (l.getD 0).toNat * z) ((h.getD n).toNat - (l.getD 0).toNat) (.k (n - (l.getD 0).toNat)))
  | _, _, _, _ => none
theorem spP_some (i off : Nat) (l h : Option Int) (n z : Nat) : spP i off (some l) (some h) (some none) (some (true, n, z)) = some (0 ≤ l.getD 0 ∧ l.getD 0 ≤ h.getD n ∧ h.getD n ≤ n, .s i (if n = (l.getD 0).toNat then off else off + (l.getD 0).toNat * z) ((h.getD n).toNat - (l.getD 0).toNat) (.k (n - (l.getD 0).toNat))) := rfl
theorem sliceV_p (i off : Nat) (lo hi mx : Option V) : sliceV P t (.p i off) lo hi mx = spP i off (bnd lo) (bnd hi) (bnd mx) (rowo P t) := by
  unfold sliceV spP
  rcases bnd lo with _ | l <;> rcases bnd hi with _ | h <;> rcases bnd mx with _ | (_ | m) <;> rcases rowo P t with _ | ⟨_ | _, _, _⟩ <;> rfl
theorem bnd_none : bnd none = some none := rfl
theorem bnd_int (k : IntKind) (m : Int) : bnd (some (.v (.int k m))) = some (some m) := rfl
theorem capOk_k (hp : List Blk) (i off len c : Nat) : capOk hp (.s i off len (.k c)) = True := rfl
theorem capOk_p (hp : List Blk) (i off : Nat) : capOk hp (.p i off) = True := rfl
def coP (c len : Nat) : Option Blk → Prop
  | some ⟨cs, _, .own z⟩ => 0 < z ∧ (c + len) * z ≤ cs.length
  | _ => False
theorem coP_some (c len z : Nat) (cs : List V) (e : TypeId) : coP c len (some ⟨cs, e, .own z⟩) = (0 < z ∧ (c + len) * z ≤ cs.length) := rfl
theorem capOk_u (hp : List Blk) (i off len c : Nat) : capOk hp (.s i off len (.u c)) = coP c len hp[i]? := by
  unfold capOk coP
  simp only []
  generalize (hp[i]? : Option Blk) = o
  rcases o with _ | ⟨cs, e, _ | _ | _ | _⟩ <;> rfl

/- append. -/
def nwP (z off m : Nat) : Option Blk → Option (Prop × Nat × List V)
  | some b => some (b.k.live = true ∧ off + m * z ≤ b.cells.length, m, seg b.cells off (m * z))
  | none => none
theorem nwP_some (z off m : Nat) (b : Blk) : nwP z off m (some b) = some (b.k.live = true ∧ off + m * z ≤ b.cells.length, m, seg b.cells off (m * z)) := rfl
theorem newsV_s (hp : List Blk) (z j off m : Nat) (c : Cap) : newsV hp z (.s j off m c) = nwP z off m hp[j]? := by
  unfold newsV nwP
  simp only []
  generalize (hp[j]? : Option Blk) = o
  rcases o with _ | _ <;> rfl
def aqP (P : Program) (n0 : Nat) (sl : List V) (hp : List Blk) (i len e z by_ : Nat) : Option Blk → Option (Prop × Nat × List V) → Option (Prop × V × St)
  | some ⟨cs, el, .own z'⟩, some (p, m, ns) => some (p ∧ z' = z ∧ (zeroL P e).isSome = true ∧ el = e ∧ cs.length = len * z ∧ n0 ≤ i ∧ norefH i hp ∧ (len + m) * by_ ≤ 140737488355328 ∧ len + m ≤ 9223372036854775807, .s i 0 (len + m) (.u 0), ⟨sl.map (forget i), hp.set i ⟨cs ++ ns, el, .own z'⟩⟩)
  | _, _ => none
theorem aqP_some (n0 : Nat) (sl : List V) (hp : List Blk) (i len e z by_ : Nat) (cs : List V) (el z' : Nat) (p : Prop) (m : Nat) (ns : List V) : aqP P n0 sl hp i len e z by_ (some ⟨cs, el, .own z'⟩) (some (p, m, ns)) =
    some (p ∧ z' = z ∧ (zeroL P e).isSome = true ∧ el = e ∧ cs.length = len * z ∧ n0 ≤ i ∧ norefH i hp ∧ (len + m) * by_ ≤ 140737488355328 ∧ len + m ≤ 9223372036854775807, .s i 0 (len + m) (.u 0), ⟨sl.map (forget i), hp.set i ⟨cs ++ ns, el, .own z'⟩⟩) := rfl
def aoP (P : Program) (n0 : Nat) (sl : List V) (hp : List Blk) (i len : Nat) (x : V) : Option (TypeId × Nat × Nat) → Option (Prop × V × St)
  | some (e, z, by_) => aqP P n0 sl hp i len e z by_ hp[i]? (newsV hp z x)
  | none => none
theorem aoP_some (n0 : Nat) (sl : List V) (hp : List Blk) (i len : Nat) (x : V) (e z by_ : Nat) : aoP P n0 sl hp i len x (some (e, z, by_)) = aqP P n0 sl hp i len e z by_ hp[i]? (newsV hp z x) := rfl
theorem appV_own (n0 : Nat) (sl : List V) (hp : List Blk) (i len : Nat) (x : V) : appV P n0 ⟨sl, hp⟩ t (.s i 0 len (.u 0)) x = aoP P n0 sl hp i len x (slo P t) := by
  unfold appV appOwn aoP
  simp only []
  rcases slo P t with _ | ⟨e, z, b⟩
  · rfl
  · simp only [aqP]
    generalize (hp[i]? : Option Blk) = o
    generalize newsV hp z x = o2
    rcases o with _ | ⟨cs, el, _ | _ | _ | _⟩ <;> rcases o2 with _ | ⟨_, _, _⟩ <;> rfl
def anP (P : Program) (sl : List V) (hp : List Blk) (e z by_ : Nat) : Option (Prop × Nat × List V) → Option (Prop × V × St)
  | some (p, m, ns) => some (p ∧ (zeroL P e).isSome = true ∧ 0 < m ∧ m * by_ ≤ 140737488355328 ∧ m ≤ 9223372036854775807, .s hp.length 0 m (.u 0), ⟨sl, hp ++ [⟨ns, e, .own z⟩]⟩)
  | none => none
theorem anP_some (sl : List V) (hp : List Blk) (e z by_ : Nat) (p : Prop) (m : Nat) (ns : List V) : anP P sl hp e z by_ (some (p, m, ns)) = some (p ∧ (zeroL P e).isSome = true ∧ 0 < m ∧ m * by_ ≤ 140737488355328 ∧ m ≤ 9223372036854775807, .s hp.length 0 m (.u 0), ⟨sl, hp ++ [⟨ns, e, .own z⟩]⟩) := rfl
def amP (P : Program) (sl : List V) (hp : List Blk) (x : V) : Option (TypeId × Nat × Nat) → Option (Prop × V × St)
  | some (e, z, by_) => anP P sl hp e z by_ (newsV hp z x)
  | none => none
theorem amP_some (sl : List V) (hp : List Blk) (x : V) (e z by_ : Nat) : amP P sl hp x (some (e, z, by_)) = anP P sl hp e z by_ (newsV hp z x) := rfl
theorem appV_nil (n0 : Nat) (sl : List V) (hp : List Blk) (x : V) : appV P n0 ⟨sl, hp⟩ t (.v (.slice none 0 0)) x = amP P sl hp x (slo P t) := by
  unfold appV appNew amP anP
  simp only []
  rcases slo P t with _ | ⟨e, z, b⟩
  · rfl
  · simp only []
    generalize newsV hp z x = o2
    rcases o2 with _ | ⟨_, _, _⟩ <;> rfl
end
theorem norefH_app (i : Nat) (H L : List Blk) : norefH i (H ++ L) = (norefH i H ∧ norefH i L) := by
  unfold norefH; apply propext
  simp only [List.mem_append]
  constructor
  · intro h; exact ⟨fun b hb => h b (.inl hb), fun b hb => h b (.inr hb)⟩
  · rintro ⟨h1, h2⟩ b (hb | hb)
    · exact h1 b hb
    · exact h2 b hb
theorem norefH_cons (i : Nat) (b : Blk) (L : List Blk) : norefH i (b :: L) = (norefs i b.cells = true ∧ norefH i L) := by
  unfold norefH; apply propext; simp
theorem norefH_nil (i : Nat) : norefH i [] = True := by unfold norefH; simp
theorem norefH_wf {H : List Blk} (h : HWf H) {i : Nat} (hi : H.length ≤ i) : norefH i H := fun b hb => lts_norefs hi _ ((lts_iff _ _).2 (h b hb))
section
variable (i j o n : Nat) (z : Value) (c : Cap) (vs : List V)
theorem forget_v : forget i (.v z) = .v z := rfl
theorem forget_any : forget i .any = .any := rfl
theorem forget_p : forget i (.p j o) = if j = i then .any else .p j o := by
  unfold forget V.noref; by_cases h : j = i <;> simp [h]
theorem forget_s : forget i (.s j o n c) = if j = i then .any else .s j o n c := by
  unfold forget V.noref; by_cases h : j = i <;> simp [h]
theorem forget_a (h : norefs i vs = true) : forget i (.a vs) = .a vs := by unfold forget V.noref; simp [h]
theorem forget_t (h : norefs i vs = true) : forget i (.t vs) = .t vs := by unfold forget V.noref; simp [h]
theorem forget_f (h : norefs i vs = true) : forget i (.f j vs) = .f j vs := by unfold forget V.noref; simp [h]
theorem seg_zero (o : Nat) : seg vs o 0 = [] := by unfold seg; simp
theorem seg_cons (v : V) : seg (v :: vs) 0 (n + 1) = v :: seg vs 0 n := by unfold seg; simp
theorem seg_skip (v : V) : seg (v :: vs) (o + 1) n = seg vs o n := by unfold seg; simp
theorem wr_whole (ns cs : List V) (h : cs.length = ns.length) : wr cs 0 ns = ns := by unfold wr; simp [← h]
theorem cel_zero (v : V) : cel (v :: vs) 0 = v := rfl
theorem cel_succ (v : V) : cel (v :: vs) (n + 1) = cel vs n := rfl
theorem wr_zero (v x : V) : wr (v :: vs) 0 [x] = x :: vs := by unfold wr; simp
theorem wr_succ (v : V) (ns : List V) : wr (v :: vs) (n + 1) ns = v :: wr vs n ns := by unfold wr; simp [Nat.add_right_comm]
end
theorem wr_row (k : IntKind) (n : Nat) (f g : Nat → Int) : wr (rowL k n f) 0 (rowL k n g) = rowL k n g := wr_whole _ _ (by simp [rowL])
theorem wr_rowl (k : IntKind) (n : Nat) (f g : Nat → Int) (c : List V) : wr (rowL k n f ++ c) 0 (rowL k n g) = rowL k n g ++ c := by
  unfold wr; simp [rowL]
theorem wr_rowr (k : IntKind) (n : Nat) (f : Nat → Int) (c ns : List V) : wr (rowL k n f ++ c) n ns = rowL k n f ++ wr c 0 ns := by
  unfold wr
  rw [List.take_append_of_le_length (by simp [rowL]), List.take_of_length_le (by simp [rowL]), List.drop_append, List.drop_of_length_le (by simp [rowL])]
  simp [rowL]
theorem rowL_split (k : IntKind) (n m : Nat) (f : Nat → Int) : rowL k (n + m) f = rowL k n f ++ rowL k m (fun j => f (n + j)) := by
  unfold rowL; rw [List.range_add]; simp [Function.comp_def]
theorem seg_all (n : Nat) (cs : List V) (h : cs.length = n) : seg cs 0 n = cs := by subst h; unfold seg; simp
theorem pickB_true (x y : V) : pickB x y (.v (.bool true)) = some (True, x) := by
  unfold pickB pickV; cases x <;> try rfl
  rename_i z; cases z <;> try rfl
  cases y <;> try rfl
  rename_i z; cases z <;> rfl
theorem pickB_false (x y : V) : pickB x y (.v (.bool false)) = some (True, y) := by
  unfold pickB pickV; cases x <;> try rfl
  rename_i z; cases z <;> try rfl
  cases y <;> try rfl
  rename_i z; cases z <;> rfl
attribute [go_sem] seg_all wr_whole pickB_true pickB_false fillV_nil fillV_cons fpP_some place_st place_ar blP_some buildV_eq bqP_some bsP_some bslV_eq mqP_some mmP_some mkV_int skP_some sliceV_k suP_some sliceV_u spP_some sliceV_p bnd_none bnd_int capOk_k capOk_p coP_some capOk_u
  nwP_some newsV_s aqP_some aoP_some appV_own anP_some amP_some appV_nil norefH_app norefH_cons norefH_nil forget_v forget_any forget_p forget_s forget_a forget_t forget_f seg_zero seg_cons seg_skip cel_zero cel_succ wr_zero wr_succ wr_row wr_rowl wr_rowr
  Option.getD_some Option.getD_none Option.isSome_some Int.toNat_zero Nat.sub_zero Nat.zero_mul Nat.one_mul Int.toNat_natCast Option.map_eq_map
end Go.Sx
namespace Go.Sx
open Go.RowKit

theorem seg_sub (cs : List V) (off n o m : Nat) (h : o + m ≤ n) : seg (seg cs off n) o m = seg cs (off + o) m := by
  unfold seg; rw [List.drop_take, List.drop_drop, List.take_take]; congr 1; omega
theorem At.sub {H : List Blk} {i off : Nat} {cs : List V} {b : Blk} (h : At H i off cs b) {o m : Nat} (hm : o + m ≤ cs.length) : seg b.cells (off + o) m = seg cs o m := by
  conv => rhs; rw [← h.sg]
  rw [seg_sub _ _ _ _ _ hm]
/- Lists of things of z cells each. -/
section
variable {α : Type} (enc : α → List V) (z : Nat) (hz : ∀ x, (enc x).length = z)
include hz
theorem flat_len (l : List α) : (l.flatMap enc).length = l.length * z := by
  induction l with
  | nil => simp
  | cons a l ih => rw [List.flatMap_cons, List.length_append, hz, ih, List.length_cons, Nat.add_mul, Nat.one_mul, Nat.add_comm]
theorem flat_seg : ∀ (l : List α) (j : Nat) (hj : j < l.length), seg (l.flatMap enc) (j * z) z = enc l[j]
  | [], j, hj => by simp at hj
  | a :: l, 0, _ => by
    rw [List.flatMap_cons]
    have := seg_app (enc a) (l.flatMap enc)
    rw [hz] at this
    simpa using this
  | a :: l, j + 1, hj => by
    rw [List.flatMap_cons]
    have := flat_seg l j (by simpa using hj)
    rw [List.getElem_cons_succ, ← this]
    unfold seg
    have e : (enc a ++ l.flatMap enc).drop z = l.flatMap enc := by
      have := @List.drop_left V (enc a) (l.flatMap enc)
      rw [hz] at this; exact this
    rw [Nat.add_mul, Nat.one_mul, Nat.add_comm (j * z), ← List.drop_drop, e]
theorem At.elem {H : List Blk} {i off : Nat} {l : List α} {b : Blk} (h : At H i off (l.flatMap enc) b) {j : Nat} (hj : j < l.length) : seg b.cells (off + j * z) z = enc l[j] := by
  have hl := flat_len enc z hz l
  have hm : j * z + z ≤ l.length * z := by
    have := Nat.mul_le_mul_right z hj
    rw [Nat.succ_mul] at this; exact this
  rw [h.sub (by rw [hl]; exact hm), flat_seg enc z hz l j hj]
theorem At.fits {H : List Blk} {i off : Nat} {l : List α} {b : Blk} (h : At H i off (l.flatMap enc) b) {j : Nat} (hj : j < l.length) (h0 : 0 < z) : off + j * z + z ≤ b.cells.length :=
  seg_len (by rw [h.elem enc z hz hj, hz]) h0
end
/-- The first index at which p holds. -/
def idxF (m : Nat) (p : Nat → Bool) : Int := match (List.range m).find? p with | some j => j | none => -1
theorem idxF_at {m n : Nat} {p : Nat → Bool} (hn : n < m) (hp : p n = true) (hb : ∀ j, j < n → p j = false) : idxF m p = n := by
  have : (List.range m).find? p = some n := by
    rw [List.find?_range_eq_some]
    exact ⟨hp, by simpa using hn, fun j hj => by simp [hb j hj]⟩
  unfold idxF; rw [this]
theorem idxF_none {m : Nat} {p : Nat → Bool} (hb : ∀ j, j < m → p j = false) : idxF m p = -1 := by
  have : (List.range m).find? p = none := by
    rw [List.find?_eq_none]; intro j hj; simp [hb j (List.mem_range.1 hj)]
  unfold idxF; rw [this]
/-- Does p hold below m? -/
def anyN (m : Nat) (p : Nat → Bool) : Bool := (List.range m).any p
def allN (m : Nat) (p : Nat → Bool) : Bool := (List.range m).all p
theorem anyN_iff {m : Nat} {p : Nat → Bool} : anyN m p = true ↔ ∃ j, j < m ∧ p j = true := by simp [anyN]
theorem allN_iff {m : Nat} {p : Nat → Bool} : allN m p = true ↔ ∀ j, j < m → p j = true := by simp [allN]
theorem not_anyN {m : Nat} {p : Nat → Bool} : (!anyN m p) = allN m (fun j => !p j) := by rw [Bool.eq_iff_iff]; simp [anyN, allN]
theorem idxF_nonneg (m : Nat) (p : Nat → Bool) : decide (0 ≤ idxF m p) = anyN m p := by
  unfold idxF anyN
  have e : (List.range m).any p = ((List.range m).find? p).isSome := by
    cases h : (List.range m).find? p with
    | none => rw [List.find?_eq_none] at h; simpa using h
    | some j => have := List.find?_some h; have h2 := List.mem_of_find?_eq_some h; simp only [Option.isSome_some, List.any_eq_true]; exact ⟨j, h2, this⟩
  rw [e]
  cases (List.range m).find? p with
  | none => rfl
  | some j => simp
/-- Some first entries of a list, the rest as f has them. -/
def pfx (h f : Nat → Int) (n : Nat) : Nat → Int := fun j => if j < n then h j else f j
theorem pfx_zero (h f : Nat → Int) : pfx h f 0 = f := by funext j; simp [pfx]
theorem pfx_succ (h f : Nat → Int) (n : Nat) : upd (pfx h f n) n (h n) = pfx h f (n + 1) := by
  funext j; unfold upd pfx
  rcases Nat.lt_trichotomy j n with e | e | e
  · rw [if_neg (by omega), if_pos e, if_pos (by omega)]
  · subst e; simp
  · rw [if_neg (by omega), if_neg (by omega), if_neg (by omega)]
theorem pfx_all (k : IntKind) (h f : Nat → Int) (n : Nat) : rowL k n (pfx h f n) = rowL k n h := rowL_ext k n _ _ fun _ hj => if_pos hj
/-- A loop's round that writes the next entry. -/
theorem wr_pfx (k : IntKind) {n m : Nat} (h f : Nat → Int) (hn : n < m) {x : Int} (hx : x = h n) : wr (rowL k m (pfx h f n)) n [.v (.int k x)] = rowL k m (pfx h f (n + 1)) := by
  subst hx; rw [rowL_wr _ _ _ hn, pfx_succ]
theorem in64_iff (n : Int) : In64 n = (-9223372036854775808 ≤ n ∧ n ≤ 9223372036854775807) := rfl
attribute [go_sem] in64_iff
end Go.Sx
namespace Go.Sx
open Go.RowKit Go.ChangeShapes Go.WideShapes

/-- The numbers fit their kinds. -/
def wfL (cs : List V) : Prop := ∀ c ∈ cs, ∀ k n, c = .v (.int k n) → (Lit.int k n).wf = true
theorem wfL_app {a b : List V} (h : wfL a) (h' : wfL b) : wfL (a ++ b) := fun c hc => by
  rcases List.mem_append.1 hc with hc | hc
  · exact h c hc
  · exact h' c hc
theorem wfL_nil : wfL [] := fun c hc => by cases hc

section
variable {H : Type} {enc : TypeId × Value → H} {P : Program} {w : World} {base : Nat} {sp : Nat → Bool} {held : Bool}

/-- What is read of a flat type has cells of its kinds. -/
def FlatAt (enc : TypeId × Value → H) (P : Program) (w : World) (base : Nat) (sp : Nat → Bool) (held : Bool) (t : TypeId) (ks : List KD) : Prop :=
  ∀ (fuel : Nat) (cs : List Value) (x : DataW H × List MemPlace), DataW.trod enc P w base sp held fuel t cs = some x → okV ks (cs.map .v) = true ∧ wfL (cs.map .v)

theorem flat_items {e : TypeId} {l : List KD} (IH : FlatAt enc P w base sp held e l) (m : Nat) (z : Nat) (hz : z = l.length) : ∀ (n : Nat) (cs : List Value), cs.length = n * z →
    (∀ i, i < n → ∃ x, DataW.trod enc P w base sp held m e ((cs.drop (i * z)).take z) = some x) → okV (List.replicate n l).flatten (cs.map .v) = true ∧ wfL (cs.map .v)
  | 0, cs, hl, _ => by
    have : cs = [] := by simpa using hl
    subst this
    exact ⟨rfl, wfL_nil⟩
  | n + 1, cs, hl, h => by
    obtain ⟨x, hx⟩ := h 0 (by omega)
    simp only [Nat.zero_mul, List.drop_zero] at hx
    have h1 := IH _ _ _ hx
    rw [Nat.add_mul, Nat.one_mul] at hl
    have h2 := flat_items IH m z hz n (cs.drop z) (by rw [List.length_drop]; omega) fun i hi => by
      have := h (i + 1) (by omega)
      rw [List.drop_drop, Nat.add_comm z]
      rw [Nat.add_mul, Nat.one_mul] at this
      exact this
    have e1 : cs.map V.v = (cs.take z).map V.v ++ (cs.drop z).map V.v := by rw [← List.map_append, List.take_append_drop]
    rw [e1, List.replicate_succ, List.flatten_cons]
    exact ⟨okV_app h1.1 h2.1, wfL_app h1.2 h2.2⟩

theorem cellsOf_szq {t : TypeId} {n : Nat} (h : szq P t = some n) : P.cellsOf t = n := by
  unfold szq at h; unfold Program.cellsOf; rw [h]; rfl

theorem flat_fields {d : Nat} (IH : ∀ t ks, kndo P d t = some ks → FlatAt enc P w base sp held t ks) (m : Nat) (cs : List Value) : ∀ (fs : List Field) (off : Nat) (ks : List KD),
    fldsK P (kndo P d) fs off = some ks → (∀ f ∈ fs, ∃ x, DataW.trod enc P w base sp held m f.type ((cs.drop f.offset).take (P.cellsOf f.type)) = some x) →
    okV ks (((cs.drop off).take ks.length).map .v) = true ∧ wfL (((cs.drop off).take ks.length).map .v)
  | [], off, ks, hk, _ => by
    simp only [fldsK, Option.some.injEq] at hk; subst hk
    simp only [List.length_nil, List.take_zero, List.map_nil]
    exact ⟨rfl, wfL_nil⟩
  | f :: fs, off, ks, hk, h => by
    simp only [fldsK] at hk
    split at hk
    · rename_i l hl
      split at hk
      · rename_i hc
        simp only [Bool.and_eq_true, bne_iff_ne, ne_eq, beq_iff_eq] at hc
        obtain ⟨ls, hls, rfl⟩ := Option.map_eq_some_iff.1 hk
        obtain ⟨x, hx⟩ := h f (List.mem_cons_self ..)
        rw [hc.1.2, cellsOf_szq hc.2] at hx
        have h1 := IH _ _ hl _ _ _ hx
        have h2 := flat_fields IH m cs fs _ ls hls fun g hg => h g (List.mem_cons_of_mem _ hg)
        rw [List.length_append, List.take_add, List.map_append, List.drop_drop]
        exact ⟨okV_app h1.1 h2.1, wfL_app h1.2 h2.2⟩
      · cases hk
    · cases hk

theorem trod_flat : ∀ (d : Nat) (t : TypeId) (ks : List KD), kndo P d t = some ks → FlatAt enc P w base sp held t ks
  | 0, _, _, h => by cases h
  | d + 1, t, ks, h => by
    intro fuel cs x hx
    simp only [kndo] at h
    split at h
    · rename_i hu
      cases h
      cases fuel with
      | zero => simp [DataW.trod] at hx
      | succ m =>
        unfold DataW.trod at hx
        rw [hu] at hx
        split at hx <;> simp_all
        refine ⟨rfl, fun c hc k n e => ?_⟩
        simp at hc; subst hc; cases e
    · rename_i k hu
      cases h
      cases fuel with
      | zero => simp [DataW.trod] at hx
      | succ m =>
        unfold DataW.trod at hx
        rw [hu] at hx
        split at hx <;> simp_all
        obtain ⟨⟨rfl, hw⟩, _⟩ := hx
        refine ⟨by simp [okV], fun c hc k n e => ?_⟩
        simp at hc; subst hc; cases e; exact hw
    · rename_i n e hu
      obtain ⟨l, hl, h⟩ := Option.bind_eq_some_iff.1 h
      split at h
      · rename_i hc
        cases h
        simp only [Bool.and_eq_true, beq_iff_eq] at hc
        obtain ⟨xs, m, rfl, _, hlen, hxs, hi⟩ := DataW.trod_array hu hx
        rw [cellsOf_szq hc.2] at hlen
        refine flat_items (trod_flat d e l hl) m l.length rfl n cs hlen fun i hin => ?_
        have := hi i hin
        rw [cellsOf_szq hc.1] at this
        rw [this]
        exact ⟨_, List.getElem?_eq_getElem (by omega)⟩
      · cases h
    · rename_i fs hu
      split at h
      · cases h
      · obtain ⟨l, hl, h⟩ := Option.bind_eq_some_iff.1 h
        split at h
        · rename_i hc
          cases h
          simp only [beq_iff_eq] at hc
          obtain ⟨xs, m, rfl, _, hlen, hxs, hi⟩ := DataW.trod_struct hu hx
          rw [cellsOf_szq hc] at hlen
          have := flat_fields (fun t ks hk => trod_flat d t ks hk) m cs fs.toList 0 ks hl fun f hf => by
            obtain ⟨i, hi', hfi⟩ := List.mem_iff_getElem.1 hf
            have h2 : fs[i]? = some f := by rw [← hfi]; simp
            rw [hi i f h2]
            exact ⟨_, List.getElem?_eq_getElem (by rw [hxs]; simpa using hi')⟩
          rw [List.drop_zero, ← hlen, List.take_length] at this
          exact this
        · cases h
    · cases h
end

section
variable {H : Type} {enc : TypeId × Value → H} {P : Program} {w : World} {base : Nat} {sp : Nat → Bool} {held : Bool}
theorem concs_v (σ : Nat → Loc) (l : List Value) : concs σ (l.map .v) = l := by
  rw [concs_eq, List.map_map]
  have : (conc σ ∘ V.v) = id := by funext x; rfl
  rw [this]; simp

/-- AN ARGUMENT OF A WIDE FLAT TYPE. -/
theorem open_agg {t : TypeId} {ks : List KD} {v : Value} {d : DataW H} {ps : List MemPlace} {r : Reach} {b0 : Nat} (hk : eqo P t = some ks) (hval : Value.okWide P w r b0 t v) (hd : DataW.Trod enc P w base sp held t v d ps) :
    ∃ cs : List V, (∀ σ, conc σ (.a cs) = v) ∧ okV ks cs = true ∧ wfL cs := by
  have hk2 : kndo P 20 t = some ks ∧ ∃ cs, v = .agg cs := by
    unfold eqo at hk
    unfold Value.okWide at hval
    split at hk
    · rename_i hu
      rw [hu] at hval
      obtain ⟨cs, rfl, _⟩ := hval
      split at hk
      · cases hk
      · exact ⟨hk, cs, rfl⟩
    · rename_i hu
      rw [hu] at hval
      obtain ⟨cs, rfl, _⟩ := hval
      split at hk
      · cases hk
      · exact ⟨hk, cs, rfl⟩
    · cases hk
  obtain ⟨hk3, cs, rfl⟩ := hk2
  obtain ⟨fuel, hf⟩ := hd
  have := trod_flat 20 t ks hk3 _ _ _ hf
  refine ⟨cs.toList.map .v, fun σ => ?_, this.1, this.2⟩
  simp only [conc, concs_v]

/-- AN ARGUMENT THAT IS A SLICE OF A FLAT TYPE: nil, or a row that can be read. -/
theorem open_slice {t e : TypeId} {ks : List KD} {v : Value} {d : DataW H} {ps : List MemPlace} {r : Reach} {b0 : Nat} (hu : P.underlying t = some (.slice e)) (hk : kndo P 20 e = some ks) (hs : szo P e = some ks.length)
    (hval : Value.okWide P w r b0 t v) (hd : DataW.Trod enc P w base (fun _ => true) held t v d ps) :
    v = .slice none 0 0 ∨ ∃ blk off len cap, ∃ cs : List (List V), v = .slice (some ⟨blk, off, none⟩) len cap ∧ blk < w.heap.size ∧ len ≤ cap ∧ cap ≤ maxLen ∧ cs.length = cap ∧ (∀ c ∈ cs, okV ks c = true ∧ wfL c ∧ ∃ l : List Value, c = l.map .v) ∧
      ∀ σ j u, (concs σ cs.flatten)[j]? = some u → w.cell? ⟨blk, off + j, none⟩ = some u := by
  obtain ⟨fuel, hf⟩ := hd
  obtain ⟨a, len, cap, rfl⟩ := okWide_slice hu hval
  have hz : P.cellsOf e = ks.length := by unfold szo at hs; unfold Program.cellsOf; rw [hs]; rfl
  rcases DataW.trod_slice hu hf with ⟨h1, _⟩ | ⟨x, l, c, elems, rest, m, _, h1, _, _, hlc, hcm, hel, hg, hsp, _⟩
  · left; simpa [Value.cells] using h1
  · right
    simp [Value.cells] at h1
    obtain ⟨rfl, rfl, rfl⟩ := h1
    simp only [Value.okWide, hu, Cell.okWide, Cell.ok] at hval
    obtain ⟨_, _, _, hspot, row, cells, hshape, _⟩ := hval
    obtain ⟨blk, off, spot⟩ := x
    simp only at hspot hshape
    subst hspot
    have hblk : blk < w.heap.size := by
      unfold World.shape? at hshape
      cases hh : w.heap[blk]? with
      | none => rw [hh] at hshape; simp at hshape
      | some o => exact (Array.getElem?_eq_some_iff.1 hh).1
    obtain ⟨hrest, hr⟩ := hsp rfl
    have each : ∀ i, i < cap → ∃ cv : List Value, w.cells? base (Addr.add ⟨blk, off, none⟩ (i * ks.length)) ks.length = some cv ∧ okV ks (cv.map .v) = true ∧ wfL (cv.map .v) := by
      intro i hi
      have get : ∃ y, (w.cells? base (Addr.add ⟨blk, off, none⟩ (i * ks.length)) ks.length).bind (DataW.trod enc P w base (fun _ => true) held m e) = some y := by
        by_cases hil : i < len
        · have := hg i hil
          rw [hz] at this
          rw [this]; exact ⟨_, List.getElem?_eq_getElem (by omega)⟩
        · have := hr (i - len) (by omega)
          rw [hz, show len + (i - len) = i by omega] at this
          rw [this]; exact ⟨_, List.getElem?_eq_getElem (by omega)⟩
      obtain ⟨y, hy⟩ := get
      obtain ⟨cv, hc, ht⟩ := Option.bind_eq_some_iff.1 hy
      have := trod_flat 20 e ks hk _ _ _ ht
      exact ⟨cv, hc, this.1, this.2⟩
    let C : Nat → List Value := fun i => (w.cells? base (Addr.add ⟨blk, off, none⟩ (i * ks.length)) ks.length).getD []
    have hC : ∀ i, i < cap → w.cells? base (Addr.add ⟨blk, off, none⟩ (i * ks.length)) ks.length = some (C i) ∧ okV ks ((C i).map .v) = true ∧ wfL ((C i).map .v) := by
      intro i hi
      obtain ⟨cv, h1, h2, h3⟩ := each i hi
      have : C i = cv := by show (w.cells? _ _ _).getD [] = cv; rw [h1]; rfl
      rw [this]; exact ⟨h1, h2, h3⟩
    refine ⟨blk, off, len, cap, (List.range cap).map fun i => (C i).map .v, rfl, hblk, hlc, hcm, by simp, fun c hc => ?_, fun σ j u hu => ?_⟩
    · obtain ⟨i, hi, rfl⟩ := List.mem_map.1 hc
      have := hC i (List.mem_range.1 hi)
      exact ⟨this.2.1, this.2.2, _, rfl⟩
    · have key : ∀ n, n ≤ cap → ∀ j u, (concs σ ((List.range n).map fun i => (C i).map V.v).flatten)[j]? = some u → w.cell? ⟨blk, off + j, none⟩ = some u := by
        intro n
        induction n with
        | zero => intro _ j u h; simp [concs] at h
        | succ n ih =>
          intro hn j u h
          have hlen : ∀ n, n ≤ cap → (concs σ ((List.range n).map fun i => (C i).map V.v).flatten).length = n * ks.length := by
            intro n
            induction n with
            | zero => intro _; simp [concs]
            | succ n ihn =>
              intro hn
              rw [List.range_succ, List.map_append, List.flatten_append, concs_append, List.length_append, ihn (by omega)]
              have := okV_len (hC n (by omega)).2.1
              simp only [List.map_cons, List.map_nil, List.flatten_cons, List.flatten_nil, List.append_nil, concs_v]
              rw [List.length_map] at this
              rw [this, Nat.add_mul, Nat.one_mul]
          rw [List.range_succ, List.map_append, List.flatten_append, concs_append] at h
          rcases Nat.lt_or_ge j (n * ks.length) with hj | hj
          · rw [List.getElem?_append_left (by rw [hlen n (by omega)]; exact hj)] at h
            exact ih (by omega) j u h
          · rw [List.getElem?_append_right (by rw [hlen n (by omega)]; exact hj), hlen n (by omega)] at h
            simp only [List.map_cons, List.map_nil, List.flatten_cons, List.flatten_nil, List.append_nil, concs_v] at h
            have hc := (hC n (by omega)).1
            unfold World.cells? at hc
            split at hc
            · have hl2 := (List.getElem?_eq_some_iff.1 h).1
              have hlc2 := okV_len (hC n (by omega)).2.1
              rw [List.length_map] at hlc2
              have hjz : j - n * ks.length < ks.length := by omega
              have := mapM_some_get hc (j - n * ks.length) (j - n * ks.length) (by simp [hjz])
              rw [h] at this
              have e : (Addr.add ⟨blk, off, none⟩ (n * ks.length)).add (j - n * ks.length) = ⟨blk, off + j, none⟩ := by
                rw [addr_add, addr_add]; congr 1; omega
              rw [e] at this
              exact this
            · cases hc
      exact key cap (Nat.le_refl _) j u hu
end

/-- A CALL BY ITS CONTRACT, when nothing that came in may be written. -/
theorem calls_of_cal {P : Program} {f : FuncId} {args : List V} {H : List Blk} {σ : Nat → Loc} {w : World} {R : V → List Blk → Prop} (hc : Cal P f args H R) (hR : ∀ v H', R v H' → v = .v (.bool true)) (hrel : HRel σ H w) (hl : lts H.length args)
    (hro : ∀ b ∈ H, b.k.mut = false) {vs : Array Value} (hv : vs = (concs σ args).toArray) : Calls P f vs w fun e w' => e = .returned (.bool true) ∧ Below w.heap.size w w' := by
  subst hv
  refine (hc.2 σ w hrel hl).mono ?_
  rintro e w' ⟨v, H', σ', r, rfl, _, _, _, _, fr, _⟩
  rw [hR _ _ r]
  refine ⟨rfl, ⟨fr.os, fr.tape, fr.output, fr.size, fun k hk => fr.block k hk fun i b hb hm => ?_⟩⟩
  rw [hro b (List.mem_of_getElem? hb)] at hm
  cases hm
theorem HRel_nil (σ : Nat → Loc) (w : World) : HRel σ [] w := ⟨fun i b h => by simp at h, fun i j bi bj _ h => by simp at h, fun i b h => by simp at h⟩

theorem okV_row {k : IntKind} : ∀ {n : Nat} {cs : List V}, okV (List.replicate n (.i k)) cs = true → wfL cs → ∃ f : Nat → Int, cs = rowL k n f ∧ ∀ j, j < n → (Lit.int k (f j)).wf = true
  | 0, cs, h, _ => ⟨fun _ => 0, by have := okV_len h; simp at this; subst this; rfl, fun j hj => by omega⟩
  | n + 1, cs, h, hw => by
    cases cs with
    | nil => simp [List.replicate_succ, okV] at h
    | cons c cs =>
      rw [List.replicate_succ] at h
      have hc : ∃ x, c = .v (.int k x) ∧ okV (List.replicate n (.i k)) cs = true := by
        cases c with
        | v z => cases z <;> simp only [okV, Bool.false_eq_true, Bool.and_eq_true, decide_eq_true_eq] at h; exact ⟨_, by rw [h.1], h.2⟩
        | _ => simp [okV] at h
      obtain ⟨x, rfl, h2⟩ := hc
      obtain ⟨f, rfl, hf⟩ := okV_row h2 (fun c hc => hw c (List.mem_cons_of_mem _ hc))
      refine ⟨fun j => if j = 0 then x else f (j - 1), ?_, fun j hj => ?_⟩
      · rw [rowL_cons]; simp
      · by_cases h0 : j = 0
        · subst h0; simp only [if_true]; exact hw _ (List.mem_cons_self ..) k x rfl
        · simp only [if_neg h0]; exact hf (j - 1) (by omega)
end Go.Sx
namespace Go.Sx
open Go.RowKit

theorem ret_at {P : Program} {x : Cx} {R : V → List Blk → Prop} {H H1 : List Blk} {sl : List V} {rs : List ResultVar} (hq : ∀ e s, fin P H.length rs R e s → x.Q e s) (e : Exit) (he : e = .ret ∨ e = .normal) (hn : H.length ≤ H1.length)
    (h : FK (fun v => R v H1) (resL P ⟨sl, H1⟩ rs)) : EK P x [] e ⟨sl, H1⟩ := by
  refine hq _ _ ?_
  unfold FK at h
  split at h
  · rename_i p vs hr
    rcases he with rfl | rfl <;> (simp only [fin, hr]; exact ⟨h.1, _, _, Drop.refl _ _ _ hn, h.2⟩)
  · exact h.elim
/-- Blocks that nothing leads to are let go. -/
theorem Weak.cut {n0 : Nat} {sl : List V} {H L : List Blk} (hn : n0 ≤ H.length) (hl : lts H.length sl) (hw : HWf H) : Weak n0 ⟨sl, H ++ L⟩ ⟨sl, H⟩ := by
  intro E σ a w hE hr
  have get : ∀ (i : Nat) (b : Blk), H[i]? = some b → (H ++ L)[i]? = some b := fun i b hi => by
    rw [List.getElem?_append_left (List.getElem?_eq_some_iff.1 hi).1]; exact hi
  refine ⟨σ, ⟨hr.defers, hr.size, hr.slots, (lts_iff _ _).1 hl, ⟨fun i b hi => hr.heap.holds i b (get i b hi), fun i j bi bj hne hi hj => hr.heap.sep i j bi bj hne (get i bi hi) (get j bj hj), fun i b hi c hc => ⟨hw b (List.mem_of_getElem? hi) c hc, (hr.heap.wf i b (get i b hi) c hc).2⟩⟩, by rw [hE]; exact hn, hr.agree, hr.fr, fun i b hi hm => hr.new i b (get i b hi) hm⟩⟩
theorem Weak.both {n0 : Nat} {sl sl' : List V} {hp H L : List Blk} (e : hp = H ++ L) (h : lessL sl sl') (hn : n0 ≤ H.length) (hl : lts H.length sl') (hw : HWf H) : Weak n0 ⟨sl, hp⟩ ⟨sl', H⟩ := by
  subst e
  exact (Weak.slots h).trans (Weak.cut hn hl hw)
theorem HWf.app {H L : List Blk} (h : HWf H) (hl : ∀ b ∈ L, lts (H ++ L).length b.cells) : HWf (H ++ L) := by
  intro b hb c hc
  rcases List.mem_append.1 hb with hb | hb
  · exact V.lt_mono (by simp) _ (h b hb c hc)
  · exact (lts_iff _ _).1 (hl b hb) c hc
theorem HWf.one {H : List Blk} {b : Blk} (h : HWf H) (hl : lts (H.length + 1) b.cells) : HWf (H ++ [b]) := h.app fun c hc => by
  simp at hc; subst hc; simpa using hl
@[go_sem] theorem lt_p (m i o : Nat) : V.lt m (.p i o) = (i < m) := by simp [V.lt]
@[go_sem] theorem lt_s (m i o l : Nat) (c : Cap) : V.lt m (.s i o l c) = (i < m) := by simp [V.lt]
@[go_sem] theorem lt_any (m : Nat) : V.lt m .any = True := by simp [V.lt]
@[go_sem] theorem lt_f (m i : Nat) (cs : List V) : V.lt m (.f i cs) = lts m cs := by simp [V.lt]
@[go_sem] theorem lt_nil (m : Nat) : V.lt m (.v (.slice none 0 0)) = True := eq_true rfl
theorem set_get {α : Type} {H : List α} {i : Nat} {b : α} (h : H[i]? = some b) : H.set i b = H := by
  apply List.ext_getElem?; intro j
  rw [List.getElem?_set]
  by_cases e : i = j
  · subst e
    rw [if_pos rfl, h]
    simp [(List.getElem?_eq_some_iff.1 h).1]
  · rw [if_neg e]
theorem cel_of_seg {cs l : List V} {o z j : Nat} (h : seg cs o z = l) (hj : j < z) : cel cs (o + j) = nth l j := by
  subst h; unfold cel seg; rw [nth_eq, nth_eq, List.getElem?_take, if_pos hj, List.getElem?_drop]
end Go.Sx
namespace Go.Sx
open Go.RowKit Go.ChangeShapes Go.WideShapes

/-- v is a slice of the things cs: nil, or a row that is there (with room behind it). -/
def SlV (H : List Blk) (v : V) (cs : List (List V)) : Prop :=
  (v = .v (.slice none 0 0) ∧ cs = []) ∨ ∃ i cap rest b, v = .s i 0 cs.length (.k cap) ∧ cs.length ≤ cap ∧ At H i 0 (cs.flatten ++ rest) b
theorem SlV.app {H L : List Blk} {v : V} {cs : List (List V)} (h : SlV H v cs) : SlV (H ++ L) v cs := by
  rcases h with h | ⟨i, cap, rest, b, h1, h2, h3⟩
  · exact .inl h
  · exact .inr ⟨i, cap, rest, b, h1, h2, h3.app⟩

theorem HRel_ro {σ : Nat → Loc} {H : List Blk} {w : World} (h : ∀ i b, H[i]? = some b → Holds σ w i b ∧ b.k.mut = false ∧ ∀ c ∈ b.cells, (∀ n, V.lt n c) ∧ c.one = true) : HRel σ H w :=
  ⟨fun i b hb => (h i b hb).1, fun i j bi bj _ _ hj _ hm => (by rw [(h j bj hj).2.1] at hm; cases hm), fun i b hb c hc => ⟨((h i b hb).2.2 c hc).1 _, ((h i b hb).2.2 c hc).2⟩⟩

theorem okV_one_cell : ∀ {ks : List KD} {cs : List V}, okV ks cs = true → ∀ {y : Value}, V.v y ∈ cs → y.oneCell' = true
  | [], [], _, _, hy => by cases hy
  | .i k :: r, .v (.int k' n) :: xs, h, y, hy => by
    simp only [okV, Bool.and_eq_true] at h
    rcases List.mem_cons.1 hy with e | e
    · cases e; rfl
    · exact okV_one_cell h.2 e
  | .b :: r, .v (.bool b) :: xs, h, y, hy => by
    simp only [okV] at h
    rcases List.mem_cons.1 hy with e | e
    · cases e; rfl
    · exact okV_one_cell h e
  | [], _ :: _, h, _, _ => by simp [okV] at h
  | .i k :: r, [], h, _, _ => by simp [okV] at h
  | .b :: r, [], h, _, _ => by simp [okV] at h

section
variable {H : Type} {enc : TypeId × Value → H} {P : Program} {w : World} {base : Nat} {held : Bool}
/-- AN ARGUMENT THAT IS A SLICE, as block i. -/
theorem open_slv {t e : TypeId} {ks : List KD} {v : Value} {d : DataW H} {ps : List MemPlace} {r : Reach} {b0 : Nat} (i : Nat) (hu : P.underlying t = some (.slice e)) (hk : kndo P 20 e = some ks) (hs : szo P e = some ks.length)
    (hval : Value.okWide P w r b0 t v) (hd : DataW.Trod enc P w base (fun _ => true) held t v d ps) :
    ∃ (loc : Loc) (b : Blk) (x : V) (cs : List (List V)), (∀ σ : Nat → Loc, σ i = loc → conc σ x = v) ∧ (∀ σ : Nat → Loc, σ i = loc → Holds σ w i b ∧ b.k.mut = false ∧ ∀ c ∈ b.cells, (∀ n, V.lt n c) ∧ c.one = true) ∧
      (∀ Hp : List Blk, Hp[i]? = some b → SlV Hp x cs) ∧ (∀ c ∈ cs, okV ks c = true ∧ wfL c) ∧ (∀ n, i < n → V.lt n x) ∧ cs.length ≤ maxLen := by
  rcases open_slice hu hk hs hval hd with rfl | ⟨blk, off, len, cap, cs, rfl, hblk, hle, hmax, hlen, hcs, hread⟩
  · refine ⟨⟨0, 0, 0⟩, deadB, .v (.slice none 0 0), [], fun _ _ => rfl, fun σ _ => ⟨trivial, rfl, fun c hc => (by simp [deadB] at hc)⟩, fun _ _ => .inl ⟨rfl, rfl⟩, fun c hc => (by cases hc), fun _ _ => rfl, Nat.zero_le _⟩
  · have hl : (cs.take len).length = len := by rw [List.length_take]; omega
    refine ⟨⟨blk, off, cap⟩, ⟨cs.flatten, e, .ro⟩, .s i 0 len (.k cap), cs.take len, fun σ hσ => ?_, fun σ hσ => ⟨?_, rfl, fun c hc => ?_⟩, fun Hp hp => .inr ⟨i, cap, (cs.drop len).flatten, ⟨cs.flatten, e, .ro⟩, by rw [hl], by rw [hl]; exact hle, ?_⟩, fun c hc => ⟨(hcs c (List.mem_of_mem_take hc)).1, (hcs c (List.mem_of_mem_take hc)).2.1⟩, fun n hn => hn, by rw [hl]; omega⟩
    · simp only [conc, hσ, Cap.val, Nat.add_zero]
    · unfold Holds
      simp only [hσ]
      exact ⟨hblk, fun j u hu => hread σ j u hu⟩
    · obtain ⟨l, hl2, hc2⟩ := List.mem_flatten.1 hc
      obtain ⟨vs, rfl⟩ := (hcs l hl2).2.2
      obtain ⟨y, hy, rfl⟩ := List.mem_map.1 hc2
      have hone : y.oneCell' = true := by
        have hok := (hcs _ hl2).1
        exact okV_one_cell hok hc2
      exact ⟨fun _ => hone, hone⟩
    · refine ⟨hp, rfl, ?_⟩
      show seg cs.flatten 0 _ = _
      have e1 : (cs.take len).flatten ++ (cs.drop len).flatten = cs.flatten := by rw [← List.flatten_append, List.take_append_drop]
      rw [e1]
      unfold seg; rw [List.drop_zero, List.take_length]
end
end Go.Sx
/- Frames of dots as rows of numbers: what the bits of rows say. Plain law: no program. -/
namespace Go.Sx

/-- The rows fit 16 bits. -/
def R16 (f : Nat → Int) : Prop := ∀ j, j < 12 → 0 ≤ f j ∧ f j < 65536
def dot (f : Nat → Int) (x y : Nat) : Bool := (f y).toNat.testBit x
def placeB (x y : Int) : Bool := (decide (0 ≤ x) && decide (x ≤ 11)) && (decide (0 ≤ y) && decide (y ≤ 11))
theorem placeB_iff {x y : Int} : placeB x y = true ↔ (0 ≤ x ∧ x ≤ 11) ∧ (0 ≤ y ∧ y ≤ 11) := by simp [placeB]
def hasF (f : Nat → Int) (x y : Int) : Bool := placeB x y && dot f x.toNat y.toNat
def putF (f : Nat → Int) (x y : Int) : Nat → Int := if placeB x y = true then upd f y.toNat (((f y.toNat).toNat ||| 2 ^ x.toNat : Nat) : Int) else f

theorem wrap_u64 {x : Int} (h : 0 ≤ x) (h2 : x < 18446744073709551616) : IntKind.u64.wrap x = x := by
  unfold IntKind.wrap
  simp only [IntKind.bits, IntKind.signed, Bool.false_and]
  simp; omega
theorem wrap_u16 {x : Int} (h : 0 ≤ x) (h2 : x < 65536) : IntKind.u16.wrap x = x := by
  unfold IntKind.wrap
  simp only [IntKind.bits, IntKind.signed, Bool.false_and]
  simp; omega
theorem shr_dot {a x : Int} (ha : 0 ≤ a) (hx : 0 ≤ x) (hx2 : x ≤ 15) : decide ((a.fdiv (2 ^ (min (IntKind.u64.wrap x).toNat 16))).tmod 2 = 1) = a.toNat.testBit x.toNat := by
  rw [wrap_u64 hx (by omega), show min x.toNat 16 = x.toNat by omega]
  rw [Nat.testBit_eq_decide_div_mod_eq]
  congr 1
  have h1 : (a.fdiv (2 ^ x.toNat)) = ((a.toNat / 2 ^ x.toNat : Nat) : Int) := by
    rw [Int.fdiv_eq_ediv_of_nonneg _ (by exact_mod_cast Nat.zero_le (2 ^ x.toNat))]
    conv => lhs; rw [← Int.toNat_of_nonneg ha]
    norm_cast
  rw [h1]
  generalize a.toNat / 2 ^ x.toNat = q
  rw [Int.tmod_eq_emod_of_nonneg (Int.natCast_nonneg _)]
  apply propext
  omega
theorem or_dot {a x : Int} (ha : 0 ≤ a) (ha2 : a < 65536) (hx : 0 ≤ x) (hx2 : x ≤ 15) : bits .or .u16 a (IntKind.u16.wrap (1 * 2 ^ (min (IntKind.u64.wrap x).toNat 16))) = ((a.toNat ||| 2 ^ x.toNat : Nat) : Int) := by
  rw [wrap_u64 hx (by omega), show min x.toNat 16 = x.toNat by omega]
  have hp : (2 : Nat) ^ x.toNat < 65536 := by
    have : (2 : Nat) ^ x.toNat ≤ 2 ^ 15 := Nat.pow_le_pow_right (by omega) (by omega)
    omega
  have e : (1 : Int) * 2 ^ x.toNat = ((2 ^ x.toNat : Nat) : Int) := by norm_cast; omega
  rw [e]
  generalize (2 : Nat) ^ x.toNat = p at hp
  rw [wrap_u16 (by omega) (by omega), u16_or a _ ha ha2 (by omega) (by omega), Int.toNat_natCast]
theorem or_lt {a b : Nat} (h : a < 65536) (h2 : b < 65536) : a ||| b < 65536 := Nat.or_lt_two_pow (n := 16) h h2
theorem putF_fr {f : Nat → Int} (h : R16 f) (x y : Int) : R16 (putF f x y) := by
  unfold putF
  split
  · rename_i hp
    rw [placeB_iff] at hp
    intro j hj
    unfold upd
    split
    · have := h j hj
      have hp2 : (2 : Nat) ^ x.toNat < 65536 := by
        have : (2 : Nat) ^ x.toNat ≤ 2 ^ 11 := Nat.pow_le_pow_right (by omega) (by omega)
        omega
      have h3 := h y.toNat (by omega)
      have := or_lt (a := (f y.toNat).toNat) (b := 2 ^ x.toNat) (by omega) hp2
      omega
    · exact h j hj
  · exact h
/-- What a put dot shows. -/
theorem dot_putF (f : Nat → Int) (x y : Int) (a b : Nat) : dot (putF f x y) a b = (dot f a b || (placeB x y && (decide ((a : Int) = x) && decide ((b : Int) = y)))) := by
  unfold putF
  split
  · rename_i hp
    rw [hp]
    rw [placeB_iff] at hp
    unfold dot upd
    split
    · rename_i e
      simp only [Int.toNat_natCast, Nat.testBit_or, Nat.testBit_two_pow]
      subst e
      have e1 : decide (x.toNat = a) = (decide ((a : Int) = x) && decide ((y.toNat : Int) = y)) := by
        rw [Bool.eq_iff_iff]; simp; omega
      rw [e1]; simp
    · rename_i e
      have : decide ((b : Int) = y) = false := by simp; omega
      simp [this]
  · rename_i hp
    simp at hp
    simp [hp]
/-- Frames with the same dots are the same. -/
theorem dot_ext {f g : Nat → Int} (hf : R16 f) (hg : R16 g) (h : ∀ x y, x < 16 → y < 12 → dot f x y = dot g x y) : ∀ y, y < 12 → f y = g y := by
  intro y hy
  have h1 := hf y hy
  have h2 := hg y hy
  have : (f y).toNat = (g y).toNat := by
    apply Nat.eq_of_testBit_eq
    intro i
    by_cases hi : i < 16
    · exact h i y hi hy
    · rw [Nat.testBit_lt_two_pow, Nat.testBit_lt_two_pow]
      · have : (2 : Nat) ^ 16 ≤ 2 ^ i := Nat.pow_le_pow_right (by omega) (by omega)
        omega
      · have : (2 : Nat) ^ 16 ≤ 2 ^ i := Nat.pow_le_pow_right (by omega) (by omega)
        omega
  omega
end Go.Sx
/- Frames of dots that are moved and grown. Plain law: no program. -/
namespace Go.Sx

def F12 (f : Nat → Int) : Prop := ∀ j, j < 12 → 0 ≤ f j ∧ f j ≤ 4095
theorem F12.r16 {f : Nat → Int} (h : F12 f) : R16 f := fun j hj => by have := h j hj; omega
theorem F12.bit {f : Nat → Int} (h : F12 f) {x y : Nat} (hy : y < 12) (hx : 12 ≤ x) : dot f x y = false := by
  unfold dot
  have := h y hy
  have h2 : (2 : Nat) ^ 12 ≤ 2 ^ x := Nat.pow_le_pow_right (by omega) hx
  exact Nat.testBit_lt_two_pow (by omega)
def zeroF : Nat → Int := fun _ => 0
theorem dot_zero (x y : Nat) : dot zeroF x y = false := by simp [dot, zeroF]
theorem zeroF_r16 : R16 zeroF := fun j _ => by simp [zeroF]

def putAll (X Y : Nat → Int) (l : List Nat) (g : Nat → Int) : Nat → Int := l.foldl (fun o k => putF o (X k) (Y k)) g
theorem putAll_r16 (X Y : Nat → Int) : ∀ (l : List Nat) (g : Nat → Int), R16 g → R16 (putAll X Y l g)
  | [], g, h => h
  | k :: l, g, h => putAll_r16 X Y l _ (putF_fr h _ _)
theorem dot_putAll (X Y : Nat → Int) (a b : Nat) : ∀ (l : List Nat) (g : Nat → Int), dot (putAll X Y l g) a b = (dot g a b || l.any fun k => placeB (X k) (Y k) && (decide ((a : Int) = X k) && decide ((b : Int) = Y k)))
  | [], g => by simp [putAll]
  | k :: l, g => by
    have := dot_putAll X Y a b l (putF g (X k) (Y k))
    unfold putAll at this ⊢
    rw [List.foldl_cons, this, dot_putF, List.any_cons, Bool.or_assoc]

/-- All dots, by number. -/
def dotsTo (f : Nat → Int) (n : Nat) : List Nat := (List.range n).filter fun k => dot f (k % 12) (k / 12)
def dotsF (f : Nat → Int) : List Nat := dotsTo f 144
theorem mem_dotsF {f : Nat → Int} {k : Nat} : k ∈ dotsF f ↔ k < 144 ∧ dot f (k % 12) (k / 12) = true := by simp [dotsF, dotsTo]
theorem dotsTo_succ (f : Nat → Int) (n : Nat) : dotsTo f (n + 1) = dotsTo f n ++ (if dot f (n % 12) (n / 12) = true then [n] else []) := by
  unfold dotsTo; rw [List.range_succ, List.filter_append]; congr 1; simp only [List.filter_cons, List.filter_nil]
theorem dotsTo_len (f : Nat → Int) (n : Nat) : (dotsTo f n).length ≤ n := by
  unfold dotsTo; exact Nat.le_trans (List.length_filter_le _ _) (by simp)

def movedS (f : Nat → Int) (e s : Int) : Nat → Int := putAll (fun k => ((k % 12 : Nat) : Int) + e) (fun k => ((k / 12 : Nat) : Int) + s) (dotsF f) zeroF
theorem dot_movedS (f : Nat → Int) (e s : Int) {a b : Nat} : dot (movedS f e s) a b = ((decide (a < 12) && decide (b < 12)) && (placeB (a - e) (b - s) && dot f (a - e).toNat (b - s).toNat)) := by
  unfold movedS
  rw [dot_putAll, dot_zero, Bool.false_or, Bool.eq_iff_iff]
  simp only [List.any_eq_true, mem_dotsF, Bool.and_eq_true, decide_eq_true_eq, placeB_iff]
  constructor
  · rintro ⟨k, ⟨hk, hd⟩, hp, h1, h2⟩
    have e1 : ((a : Int) - e).toNat = k % 12 := by omega
    have e2 : ((b : Int) - s).toNat = k / 12 := by omega
    refine ⟨by omega, by omega, ?_⟩
    rw [e1, e2]; exact hd
  · rintro ⟨⟨h1, h2⟩, hp, hd⟩
    refine ⟨12 * ((b : Int) - s).toNat + ((a : Int) - e).toNat, ⟨by omega, ?_⟩, by omega, by omega, by omega⟩
    rw [show (12 * ((b : Int) - s).toNat + ((a : Int) - e).toNat) % 12 = ((a : Int) - e).toNat by omega, show (12 * ((b : Int) - s).toNat + ((a : Int) - e).toNat) / 12 = ((b : Int) - s).toNat by omega]
    exact hd
theorem movedS_r16 (f : Nat → Int) (e s : Int) : R16 (movedS f e s) := putAll_r16 _ _ _ _ zeroF_r16

/-- A moved row by shifts. -/
def movI (f : Nat → Int) (e s : Int) (j : Nat) : Int :=
  if 0 ≤ (j : Int) - s ∧ (j : Int) - s ≤ 11 then (if 0 ≤ e then (((f ((j : Int) - s).toNat).toNat * 2 ^ e.toNat % 4096 : Nat) : Int) else (((f ((j : Int) - s).toNat).toNat / 2 ^ (-e).toNat : Nat) : Int)) else 0
theorem movI_r16 {f : Nat → Int} (h : R16 f) (e s : Int) : R16 (movI f e s) := by
  intro j hj
  unfold movI
  split
  · rename_i hp
    have := h ((j : Int) - s).toNat (by omega)
    split
    · have := Nat.mod_lt ((f ((j : Int) - s).toNat).toNat * 2 ^ e.toNat) (show 0 < 4096 by omega)
      omega
    · have := Nat.div_le_self (f ((j : Int) - s).toNat).toNat (2 ^ (-e).toNat)
      generalize (f ((j : Int) - s).toNat).toNat / 2 ^ (-e).toNat = q at *
      omega
  · omega
theorem dot_movI {f : Nat → Int} (h : F12 f) {e s : Int} {a b : Nat} (hb : b < 12) : dot (movI f e s) a b = ((decide (a < 12) && decide (b < 12)) && (placeB (a - e) (b - s) && dot f (a - e).toNat (b - s).toNat)) := by
  unfold dot movI
  by_cases hp : 0 ≤ (b : Int) - s ∧ (b : Int) - s ≤ 11
  · have hlt : ((b : Int) - s).toNat < 12 := by omega
    rw [if_pos hp]
    by_cases he : 0 ≤ e
    · rw [if_pos he, Int.toNat_natCast, show (4096 : Nat) = 2 ^ 12 from rfl, Nat.testBit_mod_two_pow, ← Nat.shiftLeft_eq, Nat.testBit_shiftLeft]
      rw [Bool.eq_iff_iff]
      simp only [Bool.and_eq_true, decide_eq_true_eq, placeB_iff, ge_iff_le]
      constructor
      · rintro ⟨h1, h2, h3⟩
        have e1 : ((a : Int) - e).toNat = a - e.toNat := by omega
        rw [e1]
        exact ⟨⟨h1, hb⟩, ⟨⟨by omega, by omega⟩, hp⟩, h3⟩
      · rintro ⟨⟨h1, _⟩, ⟨⟨h2, _⟩, _⟩, h3⟩
        have e1 : ((a : Int) - e).toNat = a - e.toNat := by omega
        rw [e1] at h3
        exact ⟨h1, by omega, h3⟩
    · rw [if_neg he, Int.toNat_natCast, ← Nat.shiftRight_eq_div_pow, Nat.testBit_shiftRight]
      have e1 : ((a : Int) - e).toNat = (-e).toNat + a := by omega
      rw [e1, Bool.eq_iff_iff]
      simp only [Bool.and_eq_true, decide_eq_true_eq, placeB_iff]
      constructor
      · intro h3
        have : (-e).toNat + a < 12 := by
          apply Nat.lt_of_not_le
          intro hle
          have := h.bit (x := (-e).toNat + a) hlt hle
          unfold dot at this
          rw [this] at h3; cases h3
        exact ⟨⟨by omega, hb⟩, ⟨⟨by omega, by omega⟩, hp⟩, h3⟩
      · rintro ⟨_, _, h3⟩; exact h3
  · rw [if_neg hp, Bool.eq_iff_iff]
    simp only [Bool.and_eq_true, placeB_iff]
    constructor
    · intro h; simp at h
    · rintro ⟨_, ⟨_, h2⟩, _⟩; exact absurd h2 hp
/-- WHAT THE TWO COMPUTE IS THE SAME. -/
theorem moved_eq {f : Nat → Int} (h : F12 f) (e s : Int) (k : IntKind) : rowL k 12 (movedS f e s) = rowL k 12 (movI f e s) := by
  apply rowL_ext
  exact dot_ext (movedS_r16 f e s) (movI_r16 h.r16 e s) fun x y _ hy => by rw [dot_movedS, dot_movI h hy]
end Go.Sx
