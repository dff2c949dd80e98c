/- A small symbolic layer over the model, part 3: the rules of the walk and words for rows of numbers; it speaks of no one program. -/
import Derived.Test.YtcebmjajnbafoaaGreatDoorLB
import Derived.KernelRfl
set_option linter.unusedVariables false
set_option linter.unusedSimpArgs false
namespace Go.Sx
open Go.RowKit

section
variable {P : Program} {x : Cx} {k : List Kt} {ops : Array Oper} {r : List Oper} {d : Option Tmp} {c a b : Code} {s s' : St} {e : Exit}
@[congr] theorem WK_congr (h : s = s') : WK P x k c s = WK P x k c s' := by rw [h]
@[congr] theorem EK_congr (h : s = s') : EK P x k e s = EK P x k e s' := by rw [h]
@[congr] theorem LK_congr (h : s = s') : LK P x k ops r s = LK P x k ops r s' := by rw [h]
@[congr] theorem DK_congr (h : s = s') : DK P x k ops s = DK P x k ops s' := by rw [h]
@[congr] theorem CK_congr {v v' : V} (h : s = s') (h2 : v = v') : CK P x k a b s v = CK P x k a b s' v' := by rw [h, h2]
@[congr] theorem RK_congr {o o' : Option (Prop × V)} (h : s = s') (h2 : o = o') : RK P x k ops r d s o = RK P x k ops r d s' o' := by rw [h, h2]
@[congr] theorem OK_congr {o o' : Option (Prop × V × St)} (h2 : o = o') : OK P x k ops r d o = OK P x k ops r d o' := by rw [h2]
@[congr] theorem OS_congr {sl sl' : List V} {o o' : Option (Prop × List Blk)} (h : sl = sl') (h2 : o = o') : OS P x k ops r sl o = OS P x k ops r sl' o' := by rw [h, h2]
@[congr] theorem OB_congr {o o' : Option (Prop × V × Blk)} (h : s = s') (h2 : o = o') : OB P x k ops r d s o = OB P x k ops r d s' o' := by rw [h, h2]
@[congr] theorem SK_congr {l l' : List V} {v v' : V} (h0 : l = l') (h : s = s') (h2 : v = v') : SK P x k ops r d l s v = SK P x k ops r d l' s' v' := by rw [h0, h, h2]
@[congr] theorem HK_congr {op : Op} {ty : TypeId} {pos : String} {af : Array Edge} {o o' : Option Bool} (h : s = s') (h2 : o = o') : HK P x k ops r d op ty pos af s o = HK P x k ops r d op ty pos af s' o' := by rw [h, h2]
end

theorem EK_nil (P : Program) (x : Cx) (e : Exit) (s : St) : EK P x [] e s = x.Q e s := rfl

attribute [go_sem] WK_seq WK_skip WK_ret WK_exit WK_block WK_cond WK_region CK_bool EK_seq_n EK_seq_r EK_seq_e EK_blk_n EK_blk_r EK_blk_e EK_lp_r EK_lp_e
  LK_nil LK_call LK_guard OK_some HK_some RK_some LK_move LK_assign LK_pick LK_nil' LK_bin LK_un LK_conv LK_faddr LK_field LK_iaddr LK_index LK_extract LK_len LK_max LK_min
  LK_load LK_build LK_slice LK_mkf OS_some LK_store OB_some LK_alloc LK_box LK_bsl LK_mk LK_append LK_cap cvO_some cvV_int csP_same csP_new cvV_str cuP_some cbP_some cvV_s cnP_some cvV_n

/- The slots. -/
section
variable (sl xs : List V) (v y : V) (n t : Nat)
@[go_sem] theorem putS_some : putS sl (some t) v = setn sl t v := rfl
@[go_sem] theorem putS_none : putS sl none v = sl := rfl
@[go_sem] theorem setn_zero : setn (y :: xs) 0 v = v :: xs := rfl
@[go_sem] theorem setn_succ : setn (y :: xs) (n + 1) v = y :: setn xs n v := rfl
@[go_sem] theorem nth_zero : nth (y :: xs) 0 = y := rfl
@[go_sem] theorem nth_succ : nth (y :: xs) (n + 1) = nth xs n := rfl
@[go_sem] theorem ev_tmp : ev sl (.tmp t) = nth sl t := rfl
@[go_sem] theorem ev_const (z : Value) : ev sl (.const z) = cst z := rfl
@[go_sem] theorem ev_func (f : FuncId) : ev sl (.func f) = .f f [] := rfl
@[go_sem] theorem ev_global (g : Nat) : ev sl (.global g) = .v (.pointer (some ⟨g, 0, none⟩)) := rfl
@[go_sem] theorem cst_int (kd : IntKind) (z : Int) : cst (.int kd z) = .v (.int kd z) := rfl
@[go_sem] theorem cst_bool (z : Bool) : cst (.bool z) = .v (.bool z) := rfl
@[go_sem] theorem cst_str (z : ByteArray) : cst (.string z) = .v (.string z) := rfl
@[go_sem] theorem cst_nil : cst (.slice none 0 0) = .v (.slice none 0 0) := rfl
@[go_sem] theorem cst_iface : cst .nilIface = .v .nilIface := rfl
@[go_sem] theorem cst_ptr : cst (.pointer none) = .v (.pointer none) := rfl
@[go_sem] theorem cst_agg (z : Array Value) : cst (.agg z) = .any := rfl
end
attribute [go_sem] List.map_cons List.map_nil Option.map_some Option.map_none List.cons_append List.nil_append List.append_nil List.append_assoc List.length_append List.length_cons List.length_nil
  true_and and_true forall_const imp_self not_true_eq_false not_false_eq_true false_implies decide_true decide_false Bool.not_true Bool.not_false Bool.true_eq_false Bool.false_eq_true decide_eq_true_eq decide_eq_false_iff_not Bool.not_eq_true' Bool.not_eq_false' Nat.add_zero Nat.zero_add Nat.add_assoc Nat.reduceAdd Nat.reduceSub Nat.reduceMul Nat.reduceEqDiff Nat.reduceLT Nat.reduceLeDiff Int.toNat_natCast Nat.mul_one reduceIte eq_self

/- The values. -/
section
variable (P : Program) (kd : IntKind) (t : TypeId) (a b : Int)
@[go_sem] theorem fit_i64 (n : Int) : fitI .i64 n = (In64 n, .v (.int .i64 n)) := rfl
@[go_sem] theorem fit_u16 (n : Int) : fitI .u16 n = (True, .v (.int .u16 (IntKind.u16.wrap n))) := rfl
@[go_sem] theorem fit_i8 (n : Int) : fitI .i8 n = (True, .v (.int .i8 (IntKind.i8.wrap n))) := rfl
@[go_sem] theorem fit_i16 (n : Int) : fitI .i16 n = (True, .v (.int .i16 (IntKind.i16.wrap n))) := rfl
@[go_sem] theorem fit_u8 (n : Int) : fitI .u8 n = (True, .v (.int .u8 (IntKind.u8.wrap n))) := rfl
@[go_sem] theorem fit_i32 (n : Int) : fitI .i32 n = (True, .v (.int .i32 (IntKind.i32.wrap n))) := rfl
@[go_sem] theorem fit_u64 (n : Int) : fitI .u64 n = (True, .v (.int .u64 (IntKind.u64.wrap n))) := rfl
@[go_sem] theorem fit_u32 (n : Int) : fitI .u32 n = (True, .v (.int .u32 (IntKind.u32.wrap n))) := rfl
@[go_sem] theorem binV_add : binV P .add t (.v (.int kd a)) (.v (.int kd b)) = some (fitI kd (a + b)) := by simp [binV, binI]
@[go_sem] theorem binV_sub : binV P .sub t (.v (.int kd a)) (.v (.int kd b)) = some (fitI kd (a - b)) := by simp [binV, binI]
@[go_sem] theorem binV_mul : binV P .mul t (.v (.int kd a)) (.v (.int kd b)) = some (fitI kd (a * b)) := by simp [binV, binI]
@[go_sem] theorem binV_quo : binV P .quo t (.v (.int kd a)) (.v (.int kd b)) = some (b ≠ 0 ∧ (fitI kd (a.tdiv b)).1, (fitI kd (a.tdiv b)).2) := by simp [binV, binI]
@[go_sem] theorem binV_rem : binV P .rem t (.v (.int kd a)) (.v (.int kd b)) = some (b ≠ 0, .v (.int kd (a.tmod b))) := by simp [binV, binI]
@[go_sem] theorem binV_and : binV P .and t (.v (.int kd a)) (.v (.int kd b)) = some (True, .v (.int kd (bits .and kd a b))) := by simp [binV, binI]
@[go_sem] theorem binV_or : binV P .or t (.v (.int kd a)) (.v (.int kd b)) = some (True, .v (.int kd (bits .or kd a b))) := by simp [binV, binI]
@[go_sem] theorem binV_xor : binV P .xor t (.v (.int kd a)) (.v (.int kd b)) = some (True, .v (.int kd (bits .xor kd a b))) := by simp [binV, binI]
@[go_sem] theorem binV_andNot : binV P .andNot t (.v (.int kd a)) (.v (.int kd b)) = some (True, .v (.int kd (bits .andNot kd a b))) := by simp [binV, binI]
@[go_sem] theorem binV_eql : binV P .eql t (.v (.int kd a)) (.v (.int kd b)) = some (True, .v (.bool (decide (a = b)))) := by simp [binV, binI]
@[go_sem] theorem binV_neq : binV P .neq t (.v (.int kd a)) (.v (.int kd b)) = some (True, .v (.bool (!decide (a = b)))) := by simp [binV, binI]
@[go_sem] theorem binV_lss : binV P .lss t (.v (.int kd a)) (.v (.int kd b)) = some (True, .v (.bool (decide (a < b)))) := by simp [binV, binI]
@[go_sem] theorem binV_leq : binV P .leq t (.v (.int kd a)) (.v (.int kd b)) = some (True, .v (.bool (decide (a ≤ b)))) := by simp [binV, binI]
@[go_sem] theorem binV_gtr : binV P .gtr t (.v (.int kd a)) (.v (.int kd b)) = some (True, .v (.bool (decide (b < a)))) := by simp [binV, binI]
@[go_sem] theorem binV_geq : binV P .geq t (.v (.int kd a)) (.v (.int kd b)) = some (True, .v (.bool (decide (b ≤ a)))) := by simp [binV, binI]
@[go_sem] theorem binV_shl (k' : IntKind) : binV P .shl t (.v (.int kd a)) (.v (.int k' b)) = some (0 ≤ b ∧ (fitI kd (a * 2 ^ (min b.toNat kd.bits))).1, (fitI kd (a * 2 ^ (min b.toNat kd.bits))).2) := by simp [binV, shI]
@[go_sem] theorem binV_shr (k' : IntKind) : binV P .shr t (.v (.int kd a)) (.v (.int k' b)) = some (0 ≤ b, .v (.int kd (a.fdiv (2 ^ (min b.toNat kd.bits))))) := by simp [binV, shI]
def baP (op : BinOp) (xs ys : List V) : Option (List KD) → Option (Prop × V)
  | some ks => match op with
    | .eql => some (okV ks xs = true ∧ okV ks ys = true, .v (.bool (eqL xs ys)))
    | .neq => some (okV ks xs = true ∧ okV ks ys = true, .v (.bool (!eqL xs ys)))
    | _ => none
  | none => none
@[go_sem] theorem baP_eql (xs ys : List V) (ks : List KD) : baP .eql xs ys (some ks) = some (okV ks xs = true ∧ okV ks ys = true, .v (.bool (eqL xs ys))) := rfl
@[go_sem] theorem baP_neq (xs ys : List V) (ks : List KD) : baP .neq xs ys (some ks) = some (okV ks xs = true ∧ okV ks ys = true, .v (.bool (!eqL xs ys))) := rfl
@[go_sem] theorem binV_a (op : BinOp) (xs ys : List V) : binV P op t (.a xs) (.a ys) = baP op xs ys (eqo P t) := by
  unfold binV baP binA; cases eqo P t <;> cases op <;> rfl
def bbP (op : BinOp) (a b : Bool) : Option TypeDesc → Option (Prop × V)
  | some .bool => match op with
    | .eql => some (True, .v (.bool (a == b)))
    | .neq => some (True, .v (.bool (!(a == b))))
    | _ => none
  | _ => none
@[go_sem] theorem bbP_eql (a b : Bool) : bbP .eql a b (some .bool) = some (True, .v (.bool (a == b))) := rfl
@[go_sem] theorem bbP_neq (a b : Bool) : bbP .neq a b (some .bool) = some (True, .v (.bool (!(a == b)))) := rfl
@[go_sem] theorem binV_b (op : BinOp) (a b : Bool) : binV P op t (.v (.bool a)) (.v (.bool b)) = bbP op a b (P.underlying t) := by
  unfold binV bbP binB; rcases P.underlying t with _ | (_ | _) <;> cases op <;> rfl
@[go_sem] theorem unV_neg (n : Int) : unV .neg (.v (.int kd n)) = some (fitI kd (0 - n)) := rfl
@[go_sem] theorem unV_not (z : Bool) : unV .not (.v (.bool z)) = some (True, .v (.bool (!z))) := rfl
@[go_sem] theorem pickB_bool (c p q : Bool) : pickB (.v (.bool p)) (.v (.bool q)) (.v (.bool c)) = some (True, .v (.bool (if c = true then p else q))) := rfl
@[go_sem] theorem nilV_p (i o : Nat) : nilV (.p i o) = some (True, .p i o) := rfl
@[go_sem] theorem nilV_f (n : Nat) (cs : List V) : nilV (.f n cs) = some (True, .f n cs) := rfl
@[go_sem] theorem extractV_t (i : Nat) (vs : List V) : extractV i (.t vs) = some (i < vs.length, nth vs i) := rfl
def faP (i off : Nat) : Option Nat → Option (Prop × V)
  | some o => some (True, .p i (off + o))
  | none => none
@[go_sem] theorem faP_some (i off o : Nat) : faP i off (some o) = some (True, .p i (off + o)) := rfl
@[go_sem] theorem fieldAddrV_p (f i off : Nat) : fieldAddrV P t f (.p i off) = faP i off (foff P t f) := by unfold fieldAddrV faP; cases foff P t f <;> rfl
def ffP (P : Program) (cs : List V) : Option (TypeId × Nat) → Option (Prop × V)
  | some (ty, o) => partV P ty cs o
  | none => none
@[go_sem] theorem ffP_some (cs : List V) (ty o : Nat) : ffP P cs (some (ty, o)) = partV P ty cs o := rfl
@[go_sem] theorem fieldV_a (f : Nat) (cs : List V) : fieldV P t f (.a cs) = ffP P cs (ftyp P t f) := by unfold fieldV ffP; rcases ftyp P t f with _ | ⟨_, _⟩ <;> rfl
def ptP (cs : List V) (off : Nat) : Option Bool → Option Nat → Option (Prop × V)
  | some true, some n => some (off + n ≤ cs.length, .a (seg cs off n))
  | some false, some _ => some (off < cs.length, cel cs off)
  | _, _ => none
@[go_sem] theorem ptP_t (cs : List V) (off n : Nat) : ptP cs off (some true) (some n) = some (off + n ≤ cs.length, .a (seg cs off n)) := rfl
@[go_sem] theorem ptP_f (cs : List V) (off n : Nat) : ptP cs off (some false) (some n) = some (off < cs.length, cel cs off) := rfl
@[go_sem] theorem partV_eq (cs : List V) (off : Nat) : partV P t cs off = ptP cs off (aggo P t) (szo P t) := by
  unfold partV ptP; rcases aggo P t with _ | (_ | _) <;> cases szo P t <;> rfl
def iaP (i off : Nat) (n : Int) : Option (Bool × Nat × Nat) → Option (Prop × V)
  | some (true, len, z) => some (0 ≤ n ∧ n < (len : Int), .p i (off + n.toNat * z))
  | _ => none
@[go_sem] theorem iaP_some (i off len z : Nat) (n : Int) : iaP i off n (some (true, len, z)) = some (0 ≤ n ∧ n < (len : Int), .p i (off + n.toNat * z)) := rfl
@[go_sem] theorem indexAddrV_p (i off : Nat) (n : Int) : indexAddrV P t (.p i off) (.v (.int kd n)) = iaP i off n (rowo P t) := by
  unfold indexAddrV iaP; rcases rowo P t with _ | ⟨_ | _, _, _⟩ <;> rfl
def isP (i off len : Nat) (n : Int) : Option (Bool × Nat × Nat) → Option (Prop × V)
  | some (false, _, z) => some (0 ≤ n ∧ n < (len : Int), .p i (off + n.toNat * z))
  | _ => none
@[go_sem] theorem isP_some (i off len m z : Nat) (n : Int) : isP i off len n (some (false, m, z)) = some (0 ≤ n ∧ n < (len : Int), .p i (off + n.toNat * z)) := rfl
@[go_sem] theorem indexAddrV_s (i off len : Nat) (cp : Cap) (n : Int) : indexAddrV P t (.s i off len cp) (.v (.int kd n)) = isP i off len n (rowo P t) := by
  unfold indexAddrV isP; rcases rowo P t with _ | ⟨_ | _, _, _⟩ <;> rfl
def ixP (P : Program) (cs : List V) (n : Int) : Option (Nat × TypeId × Nat) → Option (Prop × V)
  | some (len, e, z) => (partV P e cs (n.toNat * z)).map fun r => ((0 ≤ n ∧ n < (len : Int)) ∧ r.1, r.2)
  | none => none
@[go_sem] theorem ixP_some (cs : List V) (n : Int) (len e z : Nat) : ixP P cs n (some (len, e, z)) = (partV P e cs (n.toNat * z)).map fun r => ((0 ≤ n ∧ n < (len : Int)) ∧ r.1, r.2) := rfl
@[go_sem] theorem indexV_a (cs : List V) (n : Int) : indexV P t (.a cs) (.v (.int kd n)) = ixP P cs n (etyp P t) := by
  unfold indexV ixP; rcases etyp P t with _ | ⟨_, _, _⟩ <;> rfl
@[go_sem] theorem lenV_s (i off len : Nat) (cp : Cap) (h : slTy P t = true) : lenV P t (.s i off len cp) = some (True, .v (.int .i64 len)) := by simp [lenV, h]
@[go_sem] theorem lenV_n (n c : Nat) (h : slTy P t = true) : lenV P t (.v (.slice none n c)) = some (True, .v (.int .i64 n)) := by simp [lenV, h]
def cvP (n : Int) : Option TypeDesc → Option TypeDesc → Option (Prop × V)
  | some _, some (.int k) => some (fitI k n)
  | _, _ => none
@[go_sem] theorem cvP_some (n : Int) (u : TypeDesc) (k : IntKind) : cvP n (some u) (some (.int k)) = some (fitI k n) := rfl
@[go_sem] theorem convV_int (src : TypeId) (n : Int) : convV P src t (.v (.int kd n)) = cvP n (P.underlying src) (P.underlying t) := by
  unfold convV cvP; rcases P.underlying src with _ | _ <;> rcases P.underlying t with _ | (_ | _) <;> rfl
@[go_sem] theorem max2V_t (p q : Int) : max2V true (.v (.int kd p)) (.v (.int kd q)) = some (True, .v (.int kd (if q > p then q else p))) := rfl
@[go_sem] theorem max2V_f (p q : Int) : max2V false (.v (.int kd p)) (.v (.int kd q)) = some (True, .v (.int kd (if q < p then q else p))) := rfl
end

/- The heap. -/
def ldP (off : Nat) : Option Blk → Option Bool → Option Nat → Option (Prop × V)
  | some b, some true, some n => some (b.k.live = true ∧ off + n ≤ b.cells.length, .a (seg b.cells off n))
  | some b, some false, some _ => some (b.k.live = true ∧ off < b.cells.length, cel b.cells off)
  | _, _, _ => none
@[go_sem] theorem ldP_t (off n : Nat) (b : Blk) : ldP off (some b) (some true) (some n) = some (b.k.live = true ∧ off + n ≤ b.cells.length, .a (seg b.cells off n)) := rfl
@[go_sem] theorem ldP_f (off n : Nat) (b : Blk) : ldP off (some b) (some false) (some n) = some (b.k.live = true ∧ off < b.cells.length, cel b.cells off) := rfl
@[go_sem] theorem ldV_p (P : Program) (hp : List Blk) (t : TypeId) (i off : Nat) : ldV P hp t (.p i off) = ldP off hp[i]? (aggo P t) (szo P t) := by
  unfold ldV ldP; simp only []; generalize (hp[i]? : Option Blk) = o; rcases o with _ | _ <;> rcases aggo P t with _ | (_ | _) <;> rcases szo P t with _ | _ <;> rfl
def stP (hp : List Blk) (v : V) (i off : Nat) : Option Blk → Option Nat → Option (Prop × List Blk)
  | some b, some n => some (b.k.mut = true ∧ v.solid = true ∧ (cellsL v).length = n ∧ off + (cellsL v).length ≤ b.cells.length, hp.set i ⟨wr b.cells off (cellsL v), b.elem, b.k⟩)
  | _, _ => none
@[go_sem] theorem stP_some (hp : List Blk) (v : V) (i off n : Nat) (b : Blk) : stP hp v i off (some b) (some n) = some (b.k.mut = true ∧ v.solid = true ∧ (cellsL v).length = n ∧ off + (cellsL v).length ≤ b.cells.length, hp.set i ⟨wr b.cells off (cellsL v), b.elem, b.k⟩) := rfl
@[go_sem] theorem stV_p (P : Program) (hp : List Blk) (t : TypeId) (v : V) (i off : Nat) : stV P hp t v (.p i off) = stP hp v i off hp[i]? (szo P t) := by
  unfold stV stP; simp only []; generalize (hp[i]? : Option Blk) = o; rcases o with _ | _ <;> rcases szo P t with _ | _ <;> rfl
/- Whether a value is whole, and its cells. -/
section
variable (z : Value) (i o l : Nat) (cp : Cap) (cs : List V)
@[go_sem] theorem solid_v : V.solid (.v z) = true := rfl
@[go_sem] theorem solid_p : V.solid (.p i o) = true := rfl
@[go_sem] theorem solid_s : V.solid (.s i o l cp) = true := rfl
@[go_sem] theorem solid_f : V.solid (.f i cs) = true := rfl
@[go_sem] theorem cellsL_v : cellsL (.v z) = [.v z] := rfl
@[go_sem] theorem cellsL_p : cellsL (.p i o) = [.p i o] := rfl
@[go_sem] theorem cellsL_s : cellsL (.s i o l cp) = [.s i o l cp] := rfl
@[go_sem] theorem cellsL_a : cellsL (.a cs) = cs := rfl
@[go_sem] theorem cellsL_f : cellsL (.f i cs) = [.f i cs] := rfl
@[go_sem] theorem mut_fix : BK.fix.mut = true := rfl
@[go_sem] theorem mut_own : (BK.own i).mut = true := rfl
@[go_sem] theorem live_fix : BK.fix.live = true := rfl
@[go_sem] theorem live_own : (BK.own i).live = true := rfl
@[go_sem] theorem mut_byt : BK.byt.mut = true := rfl
@[go_sem] theorem live_byt : BK.byt.live = true := rfl
@[go_sem] theorem live_ro : BK.ro.live = true := rfl
@[go_sem] theorem mut_pin (k : Nat) : (BK.pin k).mut = false := rfl
@[go_sem] theorem live_pin (k : Nat) : (BK.pin k).live = true := rfl
end
theorem get_app {α : Type} {H L : List α} {i : Nat} {b : α} (h : H[i]? = some b) : (H ++ L)[i]? = some b := by
  rw [List.getElem?_append_left (List.getElem?_eq_some_iff.1 h).1]; exact h
theorem get_lt {α : Type} {H L : List α} {i : Nat} (h : i < H.length) : (H ++ L)[i]? = H[i]? := List.getElem?_append_left h
theorem get_at0 {α : Type} (H L : List α) : (H ++ L)[H.length]? = L[0]? := by rw [List.getElem?_append_right (Nat.le_refl _), Nat.sub_self]
theorem get_at {α : Type} (H L : List α) (n : Nat) : (H ++ L)[H.length + n]? = L[n]? := by rw [List.getElem?_append_right (Nat.le_add_right _ _), Nat.add_sub_cancel_left]
theorem get_zero {α : Type} (a : α) (L : List α) : (a :: L)[0]? = some a := rfl
theorem get_succ {α : Type} (a : α) (L : List α) (n : Nat) : (a :: L)[n + 1]? = L[n]? := rfl
theorem set_at0 {α : Type} (H L : List α) (b : α) : (H ++ L).set H.length b = H ++ L.set 0 b := by simp [List.set_append]
theorem set_at {α : Type} (H L : List α) (n : Nat) (b : α) : (H ++ L).set (H.length + n) b = H ++ L.set n b := by simp [List.set_append]
attribute [go_sem] get_lt get_at0 get_at get_zero get_succ set_at0 set_at List.set_cons_zero List.set_cons_succ

/- A loop, by what an index tells. -/
def Rof {ι : Type} (S : ι → St) (I : ι → Prop) (s : St) : Prop := ∃ i, I i ∧ s = S i
theorem least_nat {q : Nat → Prop} : ∀ n, q n → ∃ m, q m ∧ ∀ k, q k → m ≤ k := by
  intro n
  induction n using Nat.strongRecOn with
  | ind n ih =>
    intro hn
    by_cases h : ∃ k, k < n ∧ q k
    · obtain ⟨k, hk, hq⟩ := h; exact ih k hk hq
    · exact ⟨n, hn, fun k hk => Nat.le_of_not_lt fun hl => h ⟨k, hl, hk⟩⟩
theorem Mof_ex {ι : Type} (S : ι → St) (I : ι → Prop) (μ : ι → Nat) (s : St) : ∃ m, (∃ i, I i ∧ s = S i ∧ μ i = m) ∧ (∀ k, (∃ i, I i ∧ s = S i ∧ μ i = k) → m ≤ k) ∨ ¬ Rof S I s := by
  by_cases h : Rof S I s
  · obtain ⟨i, hi, e⟩ := h
    obtain ⟨m, h1, h2⟩ := least_nat (q := fun k => ∃ i, I i ∧ s = S i ∧ μ i = k) (μ i) ⟨i, hi, e, rfl⟩
    exact ⟨m, .inl ⟨h1, h2⟩⟩
  · exact ⟨0, .inr h⟩
noncomputable def Mof {ι : Type} (S : ι → St) (I : ι → Prop) (μ : ι → Nat) (s : St) : Nat := Classical.choose (Mof_ex S I μ s)
theorem Mof_le {ι : Type} {S : ι → St} {I : ι → Prop} {μ : ι → Nat} {i : ι} (h : I i) : Mof S I μ (S i) ≤ μ i := by
  rcases Classical.choose_spec (Mof_ex S I μ (S i)) with h1 | h1
  · exact h1.2 _ ⟨i, h, rfl, rfl⟩
  · exact absurd ⟨i, h, rfl⟩ h1
theorem Mof_at {ι : Type} {S : ι → St} {I : ι → Prop} {μ : ι → Nat} {s : St} (h : Rof S I s) : ∃ i, I i ∧ s = S i ∧ μ i = Mof S I μ s := by
  rcases Classical.choose_spec (Mof_ex S I μ s) with h1 | h1
  · exact h1.1
  · exact absurd h h1
theorem WK_for {P : Program} {x : Cx} {k : List Kt} {c : Code} {s : St} {ι : Type} (S : ι → St) (I : ι → Prop) (μ : ι → Nat) (i0 : ι) (h0 : Weak x.n0 s (S i0)) (hI : I i0)
    (h : ∀ i, I i → WK P x (.lp (Rof S I) (Mof S I μ) (μ i) :: k) c (S i)) : WK P x k (.loop c) s := by
  refine WK_loop P x k (Rof S I) (Mof S I μ) (S i0) h0 ⟨i0, hI, rfl⟩ fun s1 h1 => ?_
  obtain ⟨i, hi, rfl, hm⟩ := Mof_at (μ := μ) h1
  rw [← hm]
  exact h i hi
theorem EK_again {P : Program} {x : Cx} {k : List Kt} {s : St} {ι : Type} {S : ι → St} {I : ι → Prop} {μ : ι → Nat} {m : Nat} (i : ι) (h : Weak x.n0 s (S i)) (hI : I i) (hm : μ i < m) : EK P x (.lp (Rof S I) (Mof S I μ) m :: k) .normal s :=
  EK_lp_n P x k (S i) h ⟨i, hI, rfl⟩ (Nat.lt_of_le_of_lt (Mof_le hI) hm)

/- The slots forgotten. -/
def lessL : List V → List V → Prop
  | [], [] => True
  | a :: as, b :: bs => (b = .any ∨ a = b) ∧ lessL as bs
  | _, _ => False
@[go_sem] theorem lessL_nil : lessL [] [] = True := rfl
@[go_sem] theorem lessL_cons (a b : V) (as bs : List V) : lessL (a :: as) (b :: bs) = ((b = .any ∨ a = b) ∧ lessL as bs) := rfl
theorem lessL_len : ∀ (l m : List V), lessL l m → l.length = m.length
  | [], [], _ => rfl
  | _ :: as, _ :: bs, h => by simp [lessL_len as bs h.2]
  | [], _ :: _, h => h.elim
  | _ :: _, [], h => h.elim
theorem lessL_get : ∀ (l m : List V), lessL l m → ∀ (t : Nat) (v : V), m[t]? = some v → v = .any ∨ l[t]? = some v
  | [], [], _, _, _, h => by simp at h
  | a :: as, b :: bs, h, 0, v, hv => by
    simp at hv; subst hv
    rcases h.1 with h | h
    · exact .inl h
    · right; simp [h]
  | a :: as, b :: bs, h, t + 1, v, hv => by
    simp at hv ⊢
    exact lessL_get as bs h.2 t v hv
  | [], _ :: _, h, _, _, _ => h.elim
  | _ :: _, [], h, _, _, _ => h.elim
theorem Weak.slots {n0 : Nat} {sl sl' : List V} {hp : List Blk} (h : lessL sl sl') : Weak n0 ⟨sl, hp⟩ ⟨sl', hp⟩ := by
  intro E σ a w hE hr
  refine ⟨σ, ⟨hr.defers, by rw [hr.size]; exact lessL_len _ _ h, fun t v hv => ?_, fun v hv => ?_, hr.heap, hr.len, hr.agree, hr.fr, hr.new⟩⟩
  · rcases lessL_get _ _ h t v hv with h | h
    · exact .inl h
    · exact hr.slots t v h
  · obtain ⟨t, ht⟩ := List.mem_iff_getElem?.1 hv
    rcases lessL_get _ _ h t v ht with h | h
    · subst h; trivial
    · exact hr.lt v (List.mem_of_getElem? h)

/- The end. -/
def FK (F : V → Prop) : Option (Prop × List V) → Prop
  | some (p, vs) => p ∧ F (retV vs)
  | none => False
@[go_sem] theorem FK_some (F : V → Prop) (p : Prop) (vs : List V) : FK F (some (p, vs)) = (p ∧ F (retV vs)) := rfl
@[go_sem] theorem retV_one (v : V) : retV [v] = v := rfl
@[go_sem] theorem retV_two (v w : V) : retV [v, w] = .t [v, w] := rfl
@[go_sem] theorem retV_three (v w u : V) : retV [v, w, u] = .t [v, w, u] := rfl
@[go_sem] theorem resL_nil (P : Program) (s : St) : resL P s [] = some (True, []) := rfl
@[go_sem] theorem resL_tmp (P : Program) (s : St) (t : Tmp) (r : List ResultVar) : resL P s (.tmp t :: r) = (resL P s r).map fun q => ((nth s.slots t).solid = true ∧ q.1, nth s.slots t :: q.2) := rfl
def rcP (o : Option (Prop × List V)) : Option (Prop × V) → Option (Prop × List V)
  | some (p, v) => o.map fun q => (p ∧ q.1, v :: q.2)
  | none => none
@[go_sem] theorem rcP_some (o : Option (Prop × List V)) (p : Prop) (v : V) : rcP o (some (p, v)) = o.map fun q => (p ∧ q.1, v :: q.2) := rfl
@[go_sem] theorem resL_cell (P : Program) (s : St) (t : Tmp) (ty : TypeId) (r : List ResultVar) : resL P s (.cell t ty :: r) = rcP (resL P s r) (ldV P s.heap ty (nth s.slots t)) := by
  unfold rcP; rw [resL]; generalize ldV P s.heap ty (nth s.slots t) = o; rcases o with _ | ⟨_, _⟩ <;> rfl
section
variable {P : Program} {x : Cx} {R : V → List Blk → Prop} {H L : List Blk} {sl : List V} {rs : List ResultVar}
theorem ret_cut (hq : ∀ e s, fin P H.length rs R e s → x.Q e s) (hw : HWf H) (e : Exit) (he : e = .ret ∨ e = .normal) (h : FK (fun v => v.lt H.length ∧ R v H) (resL P ⟨sl, H ++ L⟩ rs)) : EK P x [] e ⟨sl, H ++ L⟩ := by
  refine hq _ _ ?_
  unfold FK at h
  split at h
  · rename_i p vs hr
    rcases he with rfl | rfl <;> (simp only [fin, hr]; exact ⟨h.1, _, _, Drop.cut _ _ _ _ rfl h.2.1 hw, h.2.2⟩)
  · exact h.elim
theorem ret_same (hq : ∀ e s, fin P H.length rs R e s → x.Q e s) (e : Exit) (he : e = .ret ∨ e = .normal) (h : FK (fun v => R v H) (resL P ⟨sl, H⟩ rs)) : EK P x [] e ⟨sl, H⟩ := by
  refine hq _ _ ?_
  unfold FK at h
  split at h
  · rename_i p vs hr
    rcases he with rfl | rfl <;> (simp only [fin, hr]; exact ⟨h.1, _, _, Drop.refl _ _ _ (Nat.le_refl _), h.2⟩)
  · exact h.elim
end

def junk : Nat → List V
  | 0 => []
  | n + 1 => .any :: junk n
@[go_sem] theorem junk_zero : junk 0 = [] := rfl
@[go_sem] theorem junk_succ (n : Nat) : junk (n + 1) = .any :: junk n := rfl
theorem junk_eq : ∀ n, junk n = List.replicate n .any
  | 0 => rfl
  | n + 1 => by rw [junk, junk_eq n, List.replicate_succ]
/-- THE LAW ON A FUNCTION. -/
theorem cal_fn {P : Program} {f : FuncId} {fn : Func} {c : Code} {args : List V} {H : List Blk} {R : V → List Blk → Prop} {nt : Nat} {rs : List ResultVar} (m : Nat)
    (hm : P.follows .mixedOrders = true) (hf : P.funcs[f]? = some fn) (hnt : fn.ntmps = nt) (hrs : fn.results = ⟨rs⟩) (hb : fn.body = some c) (hname : (fn.name != "runtime.NumGoroutine") = true) (hk : nt - args.length = m)
    (h : HWf H → ∀ x : Cx, x.n0 = H.length → (∀ e s, fin P H.length rs R e s → x.Q e s) → WK P x [] c ⟨args ++ junk m, H⟩) : Cal P f args H R := by
  refine cal_of hm hf hb hname hnt (by rw [hrs]) fun hw x hx hq => ?_
  rw [hk, ← junk_eq]
  exact h hw x hx hq
end Go.Sx
namespace Go.Sx
open Go.RowKit

/- A region that draws, walked in the text's order: the events so far stand in a list, the last one first. -/
def inL (k : Nat) : List Nat → Bool
  | [] => false
  | a :: l => if k = a then true else inL k l
theorem inL_mem {k : Nat} : ∀ {l : List Nat}, inL k l = true → k ∈ l
  | [], h => by cases h
  | a :: l, h => by
    unfold inL at h
    split at h
    · rename_i e; subst e; exact List.mem_cons_self ..
    · exact List.mem_cons_of_mem _ (inL_mem h)
def rdE (p : List Nat) (idx : Nat) : List (Nat × LE) → Prop
  | [] => True
  | (k, .wr j) :: L => (inL k p = true ∨ idx ≠ j) ∧ rdE p idx L
  | (k, .al j) :: L => (inL k p = true ∨ idx ≠ j) ∧ rdE p idx L
  | _ :: L => rdE p idx L
def wrE (p : List Nat) (idx : Nat) : List (Nat × LE) → Prop
  | [] => True
  | (k, .wr j) :: L => (inL k p = true ∨ idx ≠ j) ∧ wrE p idx L
  | (k, .al j) :: L => (inL k p = true ∨ idx ≠ j) ∧ wrE p idx L
  | (k, .rd j) :: L => (inL k p = true ∨ idx ≠ j) ∧ wrE p idx L
  | (k, .cl len hid) :: L => (inL k p = true ∨ idx ∈ hid ∨ len ≤ idx) ∧ wrE p idx L
  | _ :: L => wrE p idx L
def clE (p : List Nat) (hid : List Nat) : List (Nat × LE) → Prop
  | [] => True
  | (k, .wr j) :: L => (inL k p = true ∨ j ∈ hid) ∧ clE p hid L
  | (k, .al j) :: L => (inL k p = true ∨ j ∈ hid) ∧ clE p hid L
  | _ :: L => clE p hid L
def noE (p : List Nat) (vs : List V) : List (Nat × LE) → Prop
  | [] => True
  | (k, .al j) :: L => (inL k p = true ∨ norefs j vs = true) ∧ noE p vs L
  | _ :: L => noE p vs L

/-- The list tells all that the record tells. -/
def Lg (L : List (Nat × LE)) (log : List Tm) : Prop := ∀ (k : Nat) (e : LE), (log[k]?).map Tm.e = some e → e = .n ∨ (k, e) ∈ L
theorem Lg.nil : Lg [] [] := fun k e h => by simp at h
theorem Lg.quiet {L : List (Nat × LE)} {log : List Tm} (h : Lg L log) (v : V) (b : Option (Nat × Blk)) : Lg L (log ++ [⟨v, b, .n⟩]) := by
  intro k e hk
  rcases Nat.lt_trichotomy k log.length with hl | hl | hl
  · rw [List.getElem?_append_left hl] at hk; exact h k e hk
  · subst hl; rw [List.getElem?_append_right (Nat.le_refl _)] at hk; simp at hk; exact .inl hk.symm
  · rw [List.getElem?_eq_none (by simp; omega)] at hk; cases hk
theorem Lg.loud {L : List (Nat × LE)} {log : List Tm} (h : Lg L log) {i : Nat} (hi : log.length = i) (v : V) (b : Option (Nat × Blk)) (e : LE) : Lg ((i, e) :: L) (log ++ [⟨v, b, e⟩]) := by
  subst hi
  intro k e' hk
  rcases Nat.lt_trichotomy k log.length with hl | hl | hl
  · rw [List.getElem?_append_left hl] at hk
    rcases h k e' hk with h | h
    · exact .inl h
    · exact .inr (List.mem_cons_of_mem _ h)
  · subst hl; rw [List.getElem?_append_right (Nat.le_refl _)] at hk; simp at hk; subst hk; exact .inr (List.mem_cons_self ..)
  · rw [List.getElem?_eq_none (by simp; omega)] at hk; cases hk

theorem rdE_mem {p : List Nat} {idx : Nat} : ∀ {L : List (Nat × LE)}, rdE p idx L → ∀ k j, ((k, .wr j) ∈ L ∨ (k, .al j) ∈ L) → k ∈ p ∨ idx ≠ j
  | [], _, k, j, h => by simp at h
  | (k', e) :: L, hr, k, j, h => by
    rw [List.mem_cons, List.mem_cons] at h
    have hd : ((k, LE.wr j) = (k', e) ∨ (k, LE.al j) = (k', e)) ∨ ((k, LE.wr j) ∈ L ∨ (k, LE.al j) ∈ L) := by
      rcases h with (h | h) | (h | h)
      · exact .inl (.inl h)
      · exact .inr (.inl h)
      · exact .inl (.inr h)
      · exact .inr (.inr h)
    cases e with
    | n => rcases hd with (h | h) | h <;> first | (cases h; done) | exact rdE_mem (by simpa [rdE] using hr) k j h
    | rd a => rcases hd with (h | h) | h <;> first | (cases h; done) | exact rdE_mem (by simpa [rdE] using hr) k j h
    | cl a b => rcases hd with (h | h) | h <;> first | (cases h; done) | exact rdE_mem (by simpa [rdE] using hr) k j h
    | wr a =>
      simp only [rdE] at hr
      rcases hd with (h | h) | h
      · cases h; exact hr.1.imp inL_mem id
      · cases h
      · exact rdE_mem hr.2 k j h
    | al a =>
      simp only [rdE] at hr
      rcases hd with (h | h) | h
      · cases h
      · cases h; exact hr.1.imp inL_mem id
      · exact rdE_mem hr.2 k j h
theorem wrE_mem {p : List Nat} {idx : Nat} : ∀ {L : List (Nat × LE)}, wrE p idx L → ∀ k e, (k, e) ∈ L → match e with | .wr j => k ∈ p ∨ idx ≠ j | .al j => k ∈ p ∨ idx ≠ j | .rd j => k ∈ p ∨ idx ≠ j | .cl len hid => k ∈ p ∨ idx ∈ hid ∨ len ≤ idx | .n => True
  | [], _, k, j, h => by simp at h
  | (k', e') :: L, hr, k, e, h => by
    rw [List.mem_cons] at h
    rcases h with h | h
    · cases h
      cases e' <;> simp only [wrE] at hr <;> first | trivial | exact hr.1.imp inL_mem id
    · refine wrE_mem ?_ k e h
      cases e' <;> simp only [wrE] at hr <;> first | exact hr.2 | exact hr
theorem clE_mem {p hid : List Nat} : ∀ {L : List (Nat × LE)}, clE p hid L → ∀ k e, (k, e) ∈ L → match e with | .wr j => k ∈ p ∨ j ∈ hid | .al j => k ∈ p ∨ j ∈ hid | _ => True
  | [], _, k, j, h => by simp at h
  | (k', e') :: L, hr, k, e, h => by
    rw [List.mem_cons] at h
    rcases h with h | h
    · cases h
      cases e' <;> simp only [clE] at hr <;> first | trivial | exact hr.1.imp inL_mem id
    · refine clE_mem ?_ k e h
      cases e' <;> simp only [clE] at hr <;> first | exact hr.2 | exact hr
theorem noE_mem {p : List Nat} {vs : List V} : ∀ {L : List (Nat × LE)}, noE p vs L → ∀ k e, (k, e) ∈ L → match e with | .al j => k ∈ p ∨ norefs j vs = true | _ => True
  | [], _, k, j, h => by simp at h
  | (k', e') :: L, hr, k, e, h => by
    rw [List.mem_cons] at h
    rcases h with h | h
    · cases h
      cases e' <;> simp only [noE] at hr <;> first | trivial | exact hr.1.imp inL_mem id
    · refine noE_mem ?_ k e h
      cases e' <;> simp only [noE] at hr <;> first | exact hr.2 | exact hr

theorem okRd_of {p : List Nat} {idx : Nat} {L : List (Nat × LE)} {log : List Tm} (hg : Lg L log) (h : rdE p idx L) : ∀ n, okRd p idx log n
  | 0 => trivial
  | n + 1 => by
    refine ⟨okRd_of hg h n, ?_⟩
    cases he : (log[n]?).map Tm.e with
    | none => trivial
    | some e =>
      rcases hg n e he with h1 | h1
      · subst h1; trivial
      · cases e with
        | wr j => exact rdE_mem h n j (.inl h1)
        | al j => exact rdE_mem h n j (.inr h1)
        | _ => trivial
theorem okWr_of {p : List Nat} {idx : Nat} {L : List (Nat × LE)} {log : List Tm} (hg : Lg L log) (h : wrE p idx L) : ∀ n, okWr p idx log n
  | 0 => trivial
  | n + 1 => by
    refine ⟨okWr_of hg h n, ?_⟩
    cases he : (log[n]?).map Tm.e with
    | none => trivial
    | some e =>
      rcases hg n e he with h1 | h1
      · subst h1; trivial
      · have := wrE_mem h n e h1
        cases e <;> first | exact this | trivial
theorem okCl_of {p hid : List Nat} {L : List (Nat × LE)} {log : List Tm} (hg : Lg L log) (h : clE p hid L) : ∀ n, okCl p hid log n
  | 0 => trivial
  | n + 1 => by
    refine ⟨okCl_of hg h n, ?_⟩
    cases he : (log[n]?).map Tm.e with
    | none => trivial
    | some e =>
      rcases hg n e he with h1 | h1
      · subst h1; trivial
      · have := clE_mem h n e h1
        cases e <;> first | exact this | trivial
theorem okNo_of {p : List Nat} {vs : List V} {L : List (Nat × LE)} {log : List Tm} (hg : Lg L log) (h : noE p vs L) : ∀ n, okNo p vs log n
  | 0 => trivial
  | n + 1 => by
    refine ⟨okNo_of hg h n, ?_⟩
    cases he : (log[n]?).map Tm.e with
    | none => trivial
    | some e =>
      rcases hg n e he with h1 | h1
      · subst h1; trivial
      · have := noE_mem h n e h1
        cases e <;> first | exact this | trivial

section
variable (P : Program)
/-- Continuations of one operation. -/
abbrev Kz := List (Nat × LE) → St → Prop
def zPure (p : List Nat) (d : Option Tmp) (L : List (Nat × LE)) (s : St) (K : Kz) : Option (Prop × V) → Prop
  | some (q, v) => q ∧ noE p [v] L ∧ K L (s.put d v)
  | none => False
def zLoad (i : Nat) (p : List Nat) (d : Option Tmp) (t : TypeId) (L : List (Nat × LE)) (s : St) (K : Kz) : V → Prop
  | .p idx off => match ldV P s.heap t (.p idx off) with
    | some (q, v) => q ∧ rdE p idx L ∧ noE p [v] L ∧ K ((i, .rd idx) :: L) (s.put d v)
    | none => False
  | _ => False
def zStore (i : Nat) (p : List Nat) (d : Option Tmp) (L : List (Nat × LE)) (s : St) (K : Kz) : Option (Prop × Nat × Blk) → Prop
  | some (q, idx, b) => q ∧ wrE p idx L ∧ noE p b.cells L ∧ K ((i, .wr idx) :: L) (St.put ⟨s.slots, s.heap.set idx b⟩ d .any)
  | none => False
def zNew (i : Nat) (p : List Nat) (d : Option Tmp) (L : List (Nat × LE)) (s : St) (K : Kz) : Option (Prop × AV × Blk) → Prop
  | some (q, r, b) => q ∧ noE p b.cells L ∧ K ((i, .al s.heap.length) :: L) (St.put ⟨s.slots, s.heap ++ [b]⟩ d (r.at_ s.heap.length))
  | none => False
def zCall (i : Nat) (p : List Nat) (d : Option Tmp) (args : List V) (L : List (Nat × LE)) (s : St) (K : Kz) : V → Prop
  | .f n cs => args.all V.solid = true ∧ ∃ hid v, (callable P n = true ∧ Ret P n (args ++ cs) (hide hid s.heap) v (hide hid s.heap)) ∧ clE p hid L ∧ noE p [v] L ∧ V.lt s.heap.length v ∧ K ((i, .cl s.heap.length hid) :: L) (s.put d v)
  | _ => False
def zSlc (i : Nat) (p : List Nat) (d : Option Tmp) (t : TypeId) (lo hi mx : Option V) (L : List (Nat × LE)) (s : St) (K : Kz) : V → Prop
  | .s idx off len c => match slV P s.heap t (.s idx off len c) lo hi mx with
    | some (q, v) => q ∧ idx < s.heap.length ∧ rdE p idx L ∧ noE p [v] L ∧ K ((i, .rd idx) :: L) (s.put d v)
    | none => False
  | _ => False
def zCnv (i : Nat) (p : List Nat) (d : Option Tmp) (t u : TypeId) (L : List (Nat × LE)) (s : St) (K : Kz) (y : V) : Option (Prop × V) → Prop
  | some (q, v) => zPure p d L s K (some (q, v))
  | none => match cvK P t u y with
    | some (idx, off, len) => match cvB off len s.heap[idx]? with
      | some (q, v) => q ∧ rdE p idx L ∧ noE p [v] L ∧ K ((i, .rd idx) :: L) (s.put d v)
      | none => False
    | none => False
def MzOp (i : Nat) (p : List Nat) (o : Oper) (L : List (Nat × LE)) (s : St) (K : Kz) : Prop :=
  match o.op with
  | .load t x => zLoad P i p o.dst t L s K (ev s.slots x)
  | .slice t x lo hi mx => match (ev s.slots x).capKnown with
    | true => zPure p o.dst L s K (pureV P s.slots (.slice t x lo hi mx))
    | false => zSlc P i p o.dst t (lo.map (ev s.slots)) (hi.map (ev s.slots)) (mx.map (ev s.slots)) L s K (ev s.slots x)
  | .convert t u x => zCnv P i p o.dst t u L s K (ev s.slots x) (pureV P s.slots (.convert t u x))
  | .store t x y => zStore i p o.dst L s K (stB P s.heap t (ev s.slots y) (ev s.slots x))
  | .call { callee := .value f, args := xs, argTypes := _ } => zCall P i p o.dst (xs.toList.map (ev s.slots)) L s K (ev s.slots f)
  | op => match newV P s.slots op with
    | some x => zNew i p o.dst L s K (some x)
    | none => zPure p o.dst L s K (pureV P s.slots op)
def Mz : (i : Nat) → List Oper → List (List Nat) → List (Nat × LE) → (ops : Array Oper) → (St → Prop) → St → Prop
  | _, [], _, _, _, F, s => F s
  | i, o :: r, q, L, ops, F, s => match guardV ops s.slots o with
    | some g => (g = true → MzOp P i (q.headD []) o L s fun L' s' => Mz (i + 1) r q.tail L' ops F s') ∧ (g = false → Mz (i + 1) r q.tail L ops F (s.put o.dst (.t [])))
    | none => False

theorem MzOp_Wm {i : Nat} {pre : List (List Nat)} {o : Oper} {L : List (Nat × LE)} {log : List Tm} {s : St} {K : Kz} {K' : Tm → St → Prop} (h : MzOp P i (pr pre i) o L s K) (hg : Lg L log) (hl : log.length = i)
    (hk : ∀ L' rec s', K L' s' → Lg L' (log ++ [rec]) → K' rec s') : WmOp P pre i o log s K' := by
  have hk' := hk
  unfold MzOp at h
  unfold WmOp
  split at h
  · rename_i t x he
    unfold zLoad at h
    rw [he]
    simp only
    split at h
    · rename_i idx off hv
      rw [hv]
      simp only
      split at h
      · rename_i q v hld
        rw [hld]
        exact ⟨h.1, okRd_of hg h.2.1 i, okNo_of hg h.2.2.1 i, hk _ _ _ h.2.2.2 (hg.loud hl _ _ _)⟩
      · exact h.elim
    · exact h.elim
  · rename_i t x lo hi mx he
    rw [he]
    simp only
    split at h
    · rename_i hk
      rw [hk]
      simp only
      unfold zPure at h
      split at h
      · rename_i q v hv
        rw [hv]
        exact ⟨h.1, okNo_of hg h.2.1 i, hk' _ _ _ h.2.2 (hg.quiet _ _)⟩
      · exact h.elim
    · rename_i hk
      rw [hk]
      simp only
      unfold zSlc at h
      split at h
      · rename_i idx off len c hv
        rw [hv]; try simp only
        split at h
        · rename_i q v hs
          try rw [hs]
          exact ⟨h.1, h.2.1, okRd_of hg h.2.2.1 i, okNo_of hg h.2.2.2.1 i, hk' _ _ _ h.2.2.2.2 (hg.loud hl _ _ _)⟩
        · exact h.elim
      · exact h.elim
  · rename_i t u x he
    rw [he]
    simp only
    unfold zCnv at h
    split at h
    · rename_i q v hv
      rw [hv]
      unfold zPure at h
      exact ⟨h.1, okNo_of hg h.2.1 i, hk' _ _ _ h.2.2 (hg.quiet _ _)⟩
    · rename_i hv
      rw [hv]
      simp only
      split at h
      · rename_i idx off len hkk
        rw [hkk]
        simp only
        split at h
        · rename_i q v hb
          rw [hb]
          exact ⟨h.1, okRd_of hg h.2.1 i, okNo_of hg h.2.2.1 i, hk' _ _ _ h.2.2.2 (hg.loud hl _ _ _)⟩
        · exact h.elim
      · exact h.elim
  · rename_i t x y he
    rw [he]
    simp only
    unfold zStore at h
    split at h
    · rename_i q idx b hst
      rw [hst]
      exact ⟨h.1, okWr_of hg h.2.1 i, okNo_of hg h.2.2.1 i, hk _ _ _ h.2.2.2 (hg.loud hl _ _ _)⟩
    · exact h.elim
  · rename_i f xs ats he
    rw [he]
    simp only
    unfold zCall at h
    split at h
    · rename_i n cs hv
      rw [hv]
      obtain ⟨hs, hid, v, hc, h1, h2, h3, h4⟩ := h
      exact ⟨hs, hid, v, hc, okCl_of hg h1 i, okNo_of hg h2 i, h3, hk _ _ _ h4 (hg.loud hl _ _ _)⟩
    · exact h.elim
  · rename_i n1 n2 n5 n3 n4
    split
    · rename_i he; exact absurd he (n1 _ _)
    · rename_i he; exact absurd he (n2 _ _ _ _ _)
    · rename_i he; exact absurd he (n5 _ _ _)
    · rename_i he; exact absurd he (n3 _ _ _)
    · rename_i he; exact absurd he (n4 _ _ _)
    · split at h
      · rename_i x hx
        obtain ⟨q, r, b⟩ := x
        rw [hx]
        exact ⟨h.1, okNo_of hg h.2.1 i, hk _ _ _ h.2.2 (hg.loud hl _ _ _)⟩
      · rename_i hx
        rw [hx]
        unfold zPure at h
        split at h
        · rename_i q v hv
          rw [hv]
          exact ⟨h.1, okNo_of hg h.2.1 i, hk _ _ _ h.2.2 (hg.quiet _ _)⟩
        · exact h.elim

theorem Mz_Wm {ops : Array Oper} {pre : List (List Nat)} {F : St → Prop} : ∀ (r : List Oper) (i : Nat) (q : List (List Nat)) (L : List (Nat × LE)) (log : List Tm) (s : St), (∀ j, q.getD j [] = pr pre (i + j)) → Lg L log → log.length = i →
    Mz P i r q L ops F s → Wm P ops pre i r log F s
  | [], _, _, _, _, _, _, _, _, h => h
  | o :: r, i, q, L, log, s, hq, hg, hl, h => by
    unfold Mz at h
    unfold Wm
    have hh : q.headD [] = pr pre i := by have := hq 0; cases q <;> simpa using this
    have ht : ∀ j, q.tail.getD j [] = pr pre (i + 1 + j) := fun j => by
      have := hq (j + 1)
      rw [show i + 1 + j = i + (j + 1) by omega, ← this]
      cases q <;> simp
    split at h
    · rename_i g hgd
      simp only [hgd]
      refine ⟨fun e => ?_, fun e => ?_⟩
      · have := h.1 e
        rw [hh] at this
        exact MzOp_Wm P this hg hl fun L' rec s' hK hL => Mz_Wm r (i + 1) q.tail L' (log ++ [rec]) s' ht hL (by simp [hl]) hK
      · exact Mz_Wm r (i + 1) q.tail L _ _ ht (hg.quiet _ _) (by simp [hl]) (h.2 e)
    · exact h.elim
end
end Go.Sx
namespace Go.Sx
open Go.RowKit

def MK (P : Program) (x : Cx) (k : List Kt) (ops : Array Oper) (rest : List Oper) (i : Nat) (r : List Oper) (q : List (List Nat)) (L : List (Nat × LE)) (s : St) : Prop := Mz P i r q L ops (fun s' => LK P x k ops rest s') s
section
variable (P : Program) (x : Cx) (k : List Kt) (ops : Array Oper) (rest : List Oper) (i : Nat) (r : List Oper) (q : List (List Nat)) (p : List Nat) (d : Option Tmp) (L : List (Nat × LE)) (sl : List V) (hp : List Blk) (ty : TypeId) (pos : String) (af : Array Edge)
def MR (s : St) : Option (Prop × V) → Prop
  | some (pp, v) => pp ∧ noE p [v] L ∧ MK P x k ops rest (i + 1) r q L ⟨putS s.slots d v, s.heap⟩
  | none => False
def MD (idx : Nat) (s : St) : Option (Prop × V) → Prop
  | some (pp, v) => pp ∧ rdE p idx L ∧ noE p [v] L ∧ MK P x k ops rest (i + 1) r q ((i, .rd idx) :: L) ⟨putS s.slots d v, s.heap⟩
  | none => False
def ML (t : TypeId) (s : St) : V → Prop
  | .p idx off => MD P x k ops rest i r q p d L idx s (ldV P s.heap t (.p idx off))
  | _ => False
def MS (s : St) : Option (Prop × Nat × Blk) → Prop
  | some (pp, idx, b) => pp ∧ wrE p idx L ∧ noE p b.cells L ∧ MK P x k ops rest (i + 1) r q ((i, .wr idx) :: L) ⟨s.slots, s.heap.set idx b⟩
  | none => False
def MN (s : St) : Option (Prop × AV × Blk) → Prop
  | some (pp, a, b) => pp ∧ noE p b.cells L ∧ MK P x k ops rest (i + 1) r q ((i, .al s.heap.length) :: L) ⟨putS s.slots d (a.at_ s.heap.length), s.heap ++ [b]⟩
  | none => False
def MC (args : List V) (s : St) : V → Prop
  | .f n cs => args.all V.solid = true ∧ ∃ hid v, (callable P n = true ∧ Ret P n (args ++ cs) (hide hid s.heap) v (hide hid s.heap)) ∧ clE p hid L ∧ noE p [v] L ∧ V.lt s.heap.length v ∧ MK P x k ops rest (i + 1) r q ((i, .cl s.heap.length hid) :: L) ⟨putS s.slots d v, s.heap⟩
  | _ => False
def MG (op : Op) (s : St) : Option Bool → Prop
  | some g => (g = true → MK P x k ops rest i ({ dst := d, op := op, type := ty, pos := pos, after := af, guard := none } :: r) (p :: q) L s) ∧ (g = false → MK P x k ops rest (i + 1) r q L ⟨putS s.slots d (.t []), s.heap⟩)
  | none => False
/-- A conversion: of a value, or of a row of bytes to a text. -/
def MX (t u : TypeId) (s : St) (y : V) : Option (Prop × V) → Prop
  | some o => MR P x k ops rest i r q p d L s (some o)
  | none => match cvK P t u y with
    | some (idx, off, len) => MD P x k ops rest i r q p d L idx s (cvB off len s.heap[idx]?)
    | none => False
theorem MX_some (t u : TypeId) (s : St) (y : V) (o : Prop × V) : MX P x k ops rest i r q p d L t u s y (some o) = MR P x k ops rest i r q p d L s (some o) := rfl
theorem MX_row {t u : TypeId} (h0 : (bySl P t).isSome = true) (h2 : strT P u = true) (idx off len : Nat) (c : Cap) :
    MX P x k ops rest i r q p d L t u ⟨sl, hp⟩ (.s idx off len c) (convV P t u (.s idx off len c)) = MD P x k ops rest i r q p d L idx ⟨sl, hp⟩ (cvB off len hp[idx]?) := by
  obtain ⟨e, h1⟩ := Option.isSome_iff_exists.1 h0
  have hcv : convV P t u (.s idx off len c) = none := by
    unfold convV
    simp [(bySl_some h1).1, strT_true h2]
  rw [hcv]
  unfold MX cvK
  simp only [h1, h2]
theorem cvB_some (off len : Nat) (b : Blk) : cvB off len (some b) = (u8s (seg b.cells off len)).map fun ns => (b.k.live = true ∧ off + len ≤ b.cells.length, V.v (.string (bstr ns))) := rfl
theorem MK_nil (s : St) : MK P x k ops rest i [] q L s = LK P x k ops rest s := rfl
theorem MR_some (pp : Prop) (v : V) : MR P x k ops rest i r q p d L ⟨sl, hp⟩ (some (pp, v)) = (pp ∧ noE p [v] L ∧ MK P x k ops rest (i + 1) r q L ⟨putS sl d v, hp⟩) := rfl
theorem MD_some (idx : Nat) (pp : Prop) (v : V) : MD P x k ops rest i r q p d L idx ⟨sl, hp⟩ (some (pp, v)) = (pp ∧ rdE p idx L ∧ noE p [v] L ∧ MK P x k ops rest (i + 1) r q ((i, .rd idx) :: L) ⟨putS sl d v, hp⟩) := rfl
theorem ML_p (t : TypeId) (idx off : Nat) : ML P x k ops rest i r q p d L t ⟨sl, hp⟩ (.p idx off) = MD P x k ops rest i r q p d L idx ⟨sl, hp⟩ (ldV P hp t (.p idx off)) := rfl
theorem MS_some (pp : Prop) (idx : Nat) (b : Blk) : MS P x k ops rest i r q p L ⟨sl, hp⟩ (some (pp, idx, b)) = (pp ∧ wrE p idx L ∧ noE p b.cells L ∧ MK P x k ops rest (i + 1) r q ((i, .wr idx) :: L) ⟨sl, hp.set idx b⟩) := rfl
theorem MN_some (pp : Prop) (a : AV) (b : Blk) : MN P x k ops rest i r q p d L ⟨sl, hp⟩ (some (pp, a, b)) = (pp ∧ noE p b.cells L ∧ MK P x k ops rest (i + 1) r q ((i, .al hp.length) :: L) ⟨putS sl d (a.at_ hp.length), hp ++ [b]⟩) := rfl
theorem MG_some (op : Op) (s : St) (g : Bool) : MG P x k ops rest i r q p d L ty pos af op s (some g) = ((g = true → MK P x k ops rest i ({ dst := d, op := op, type := ty, pos := pos, after := af, guard := none } :: r) (p :: q) L s) ∧ (g = false → MK P x k ops rest (i + 1) r q L ⟨putS s.slots d (.t []), s.heap⟩)) := rfl
theorem MK_op (op : Op) : MK P x k ops rest i ({ dst := d, op := op, type := ty, pos := pos, after := af, guard := none } :: r) (p :: q) L ⟨sl, hp⟩ =
    MzOp P i p { dst := d, op := op, type := ty, pos := pos, after := af, guard := none } L ⟨sl, hp⟩ fun L' s' => MK P x k ops rest (i + 1) r q L' s' := by
  unfold MK
  rw [Mz]
  simp only [guardV, forall_const, false_implies, and_true, Bool.true_eq_false, List.headD_cons, List.tail_cons]
theorem MK_guard (op : Op) (g : Nat × Bool) : MK P x k ops rest i ({ dst := d, op := op, type := ty, pos := pos, after := af, guard := some g } :: r) (p :: q) L ⟨sl, hp⟩ =
    MG P x k ops rest i r q p d L ty pos af op ⟨sl, hp⟩ (guardV ops sl { dst := d, op := op, type := ty, pos := pos, after := af, guard := some g }) := by
  unfold MK
  rw [Mz]
  simp only
  split
  · rename_i b h
    rw [h]
    simp only [MG, List.headD_cons, List.tail_cons]
    congr 1
    · rw [MK_op]
      rfl
    · simp only [put_putS]; rfl
  · rename_i h; rw [h]; rfl
/-- A slice of a row. -/
def ME (t : TypeId) (lo hi mx : Option V) (s : St) : V → Prop
  | .s idx off len c => MD P x k ops rest i r q p d L idx s ((slV P s.heap t (.s idx off len c) lo hi mx).map fun q => (q.1 ∧ idx < s.heap.length, q.2))
  | _ => False
theorem MK_slcK (t : TypeId) (a : Operand) (lo hi mx : Option Operand) : MK P x k ops rest i ({ dst := d, op := .slice t a lo hi mx, type := ty, pos := pos, after := af, guard := none } :: r) (p :: q) L ⟨sl, hp⟩ =
    match (ev sl a).capKnown with
    | true => MR P x k ops rest i r q p d L ⟨sl, hp⟩ (slcV P t (ev sl a) (lo.map (ev sl)) (hi.map (ev sl)) (mx.map (ev sl)))
    | false => ME P x k ops rest i r q p d L t (lo.map (ev sl)) (hi.map (ev sl)) (mx.map (ev sl)) ⟨sl, hp⟩ (ev sl a) := by
  rw [MK_op]
  unfold MzOp
  simp only
  generalize hc : (ev sl a).capKnown = ck
  cases ck
  · simp only [zSlc, ME]
    generalize ev sl a = v
    cases v with
    | s idx off len c =>
      simp only [MD]
      generalize slV P hp t (.s idx off len c) _ _ _ = o
      rcases o with _ | ⟨_, _⟩
      · rfl
      · simp only [Option.map_some, put_putS, and_assoc]
    | _ => rfl
  · simp only [pureV]
    generalize slcV P t _ _ _ _ = o
    cases o with
    | none => rfl
    | some y => obtain ⟨y1, y2⟩ := y; simp only [zPure, MR, put_putS]
theorem MK_pure (op : Op) (o : Option (Prop × V)) (hn : newV P sl op = none) (ho : pureV P sl op = o) (h1 : ∀ t y, op ≠ .load t y) (h2 : ∀ t y z, op ≠ .store t y z) (h3 : ∀ f xs ats, op ≠ .call { callee := .value f, args := xs, argTypes := ats }) (h4 : ∀ t y l h m, op ≠ .slice t y l h m := by intros; intro e; cases e) (h5 : ∀ t u y, op ≠ .convert t u y := by intros; intro e; cases e) :
    MK P x k ops rest i ({ dst := d, op := op, type := ty, pos := pos, after := af, guard := none } :: r) (p :: q) L ⟨sl, hp⟩ = MR P x k ops rest i r q p d L ⟨sl, hp⟩ o := by
  rw [MK_op]
  unfold MzOp
  split
  · rename_i h; exact absurd h (h1 _ _)
  · rename_i h; exact absurd h (h4 _ _ _ _ _)
  · rename_i h; exact absurd h (h5 _ _ _)
  · rename_i h; exact absurd h (h2 _ _ _)
  · rename_i h; exact absurd h (h3 _ _ _)
  · simp only [hn, ho]
    cases o with
    | none => rfl
    | some y => obtain ⟨y1, y2⟩ := y; simp only [zPure, MR, put_putS]
theorem MK_new (op : Op) (o : Option (Prop × AV × Blk)) (hn : newV P sl op = o) (hs : o = none → pureV P sl op = none) (h1 : ∀ t y, op ≠ .load t y) (h2 : ∀ t y z, op ≠ .store t y z) (h3 : ∀ f xs ats, op ≠ .call { callee := .value f, args := xs, argTypes := ats }) (h4 : ∀ t y l h m, op ≠ .slice t y l h m := by intros; intro e; cases e) (h5 : ∀ t u y, op ≠ .convert t u y := by intros; intro e; cases e) :
    MK P x k ops rest i ({ dst := d, op := op, type := ty, pos := pos, after := af, guard := none } :: r) (p :: q) L ⟨sl, hp⟩ = MN P x k ops rest i r q p d L ⟨sl, hp⟩ o := by
  rw [MK_op]
  unfold MzOp
  split
  · rename_i h; exact absurd h (h1 _ _)
  · rename_i h; exact absurd h (h4 _ _ _ _ _)
  · rename_i h; exact absurd h (h5 _ _ _)
  · rename_i h; exact absurd h (h2 _ _ _)
  · rename_i h; exact absurd h (h3 _ _ _)
  · cases o with
    | none => simp only [hn, hs rfl]; rfl
    | some y => obtain ⟨y1, y2, y3⟩ := y; simp only [hn, zNew, MN, put_putS]
theorem MK_load (t : TypeId) (a : Operand) : MK P x k ops rest i ({ dst := d, op := .load t a, type := ty, pos := pos, after := af, guard := none } :: r) (p :: q) L ⟨sl, hp⟩ = ML P x k ops rest i r q p d L t ⟨sl, hp⟩ (ev sl a) := by
  rw [MK_op]
  unfold MzOp
  simp only [zLoad, ML]
  generalize ev sl a = v
  cases v with
  | p idx off =>
    simp only [MD]
    generalize ldV P hp t (.p idx off) = o
    rcases o with _ | ⟨_, _⟩
    · rfl
    · simp only [put_putS]
  | _ => rfl
theorem MK_store (t : TypeId) (a b : Operand) : MK P x k ops rest i ({ dst := none, op := .store t a b, type := ty, pos := pos, after := af, guard := none } :: r) (p :: q) L ⟨sl, hp⟩ = MS P x k ops rest i r q p L ⟨sl, hp⟩ (stB P hp t (ev sl b) (ev sl a)) := by
  rw [MK_op]
  unfold MzOp
  simp only
  cases stB P hp t (ev sl b) (ev sl a) with
  | none => rfl
  | some y => obtain ⟨y1, y2, y3⟩ := y; simp only [zStore, MS, St.put]
theorem MK_call (f : Operand) (xs : List Operand) (ats : Array TypeId) : MK P x k ops rest i ({ dst := d, op := .call { callee := .value f, args := ⟨xs⟩, argTypes := ats }, type := ty, pos := pos, after := af, guard := none } :: r) (p :: q) L ⟨sl, hp⟩ =
    MC P x k ops rest i r q p d L (xs.map (ev sl)) ⟨sl, hp⟩ (ev sl f) := by
  rw [MK_op]
  unfold MzOp
  simp only [zCall, MC]
  generalize ev sl f = v
  cases v with
  | f n cs => simp only [put_putS]
  | _ => rfl
/-- A call that leaves all as it is, by its contract. -/
theorem MC_ret {args : List V} {s : St} {n : Nat} {cs : List V} {v : V} (hc : Cal P n (args ++ cs) s.heap fun v1 H1 => v1 = v ∧ H1 = s.heap) (hs : args.all V.solid = true) (hl : V.lt s.heap.length v) (h : clE p [] L ∧ noE p [v] L ∧ MK P x k ops rest (i + 1) r q ((i, .cl s.heap.length []) :: L) ⟨putS s.slots d v, s.heap⟩) : MC P x k ops rest i r q p d L args s (.f n cs) := by
  have e : hide [] s.heap = s.heap := by
    apply List.ext_getElem?
    intro j
    rw [hide_get]
    cases s.heap[j]? <;> simp
  refine ⟨hs, [], v, ?_, h.1, h.2.1, hl, h.2.2⟩
  rw [e]
  exact ⟨hc.1, hc.2⟩
theorem DK_all {l : List Oper} {s : St} (pre : List (List Nat)) (hc : chk ⟨l⟩ pre l.length = true) (h : MK P x k ⟨l⟩ [] 0 l pre [] s) : DK P x k ⟨l⟩ s := by
  refine .inl ⟨pre, l.length, hc, ?_⟩
  have e1 : (⟨l⟩ : Array Oper).toList.take l.length = l := by simp
  have e2 : (⟨l⟩ : Array Oper).toList.drop l.length = [] := by simp
  rw [e1, e2]
  exact Mz_Wm P l 0 pre [] [] s (fun j => by simp [pr]) Lg.nil rfl h
theorem DK_some {l : List Oper} {s : St} (pre : List (List Nat)) (N : Nat) (hc : chk ⟨l⟩ pre N = true) (h : MK P x k ⟨l⟩ (l.drop N) 0 (l.take N) pre [] s) : DK P x k ⟨l⟩ s := by
  refine .inl ⟨pre, N, hc, ?_⟩
  exact Mz_Wm P (l.take N) 0 pre [] [] s (fun j => by simp [pr]) Lg.nil rfl h
theorem MK_move (y : Operand) : MK P x k ops rest i ({ dst := d, op := .move y, type := ty, pos := pos, after := af, guard := none } :: r) (p :: q) L ⟨sl, hp⟩ = MR P x k ops rest i r q p d L ⟨sl, hp⟩ (some (True, ev sl y)) :=
  MK_pure P x k ops rest i r q p d L sl hp ty pos af (.move y) _ rfl rfl (by intros; simp) (by intros; simp) (by intros; simp)
theorem MK_assign (y : Operand) : MK P x k ops rest i ({ dst := d, op := .assign y, type := ty, pos := pos, after := af, guard := none } :: r) (p :: q) L ⟨sl, hp⟩ = MR P x k ops rest i r q p d L ⟨sl, hp⟩ (some (True, ev sl y)) :=
  MK_pure P x k ops rest i r q p d L sl hp ty pos af (.assign y) _ rfl rfl (by intros; simp) (by intros; simp) (by intros; simp)
theorem MK_pick (c a b : Operand) : MK P x k ops rest i ({ dst := d, op := .pick c a b, type := ty, pos := pos, after := af, guard := none } :: r) (p :: q) L ⟨sl, hp⟩ = MR P x k ops rest i r q p d L ⟨sl, hp⟩ (pickB (ev sl a) (ev sl b) (ev sl c)) :=
  MK_pure P x k ops rest i r q p d L sl hp ty pos af (.pick c a b) _ rfl rfl (by intros; simp) (by intros; simp) (by intros; simp)
theorem MK_nilc (y : Operand) : MK P x k ops rest i ({ dst := d, op := .nilCheck y, type := ty, pos := pos, after := af, guard := none } :: r) (p :: q) L ⟨sl, hp⟩ = MR P x k ops rest i r q p d L ⟨sl, hp⟩ (nilV (ev sl y)) :=
  MK_pure P x k ops rest i r q p d L sl hp ty pos af (.nilCheck y) _ rfl rfl (by intros; simp) (by intros; simp) (by intros; simp)
theorem MK_bin (op : BinOp) (t u : TypeId) (a b : Operand) : MK P x k ops rest i ({ dst := d, op := .binOp op t a b u, type := ty, pos := pos, after := af, guard := none } :: r) (p :: q) L ⟨sl, hp⟩ = MR P x k ops rest i r q p d L ⟨sl, hp⟩ (binV P op t (ev sl a) (ev sl b)) :=
  MK_pure P x k ops rest i r q p d L sl hp ty pos af (.binOp op t a b u) _ rfl rfl (by intros; simp) (by intros; simp) (by intros; simp)
theorem MK_un (op : UnOp) (t : TypeId) (a : Operand) : MK P x k ops rest i ({ dst := d, op := .unOp op t a, type := ty, pos := pos, after := af, guard := none } :: r) (p :: q) L ⟨sl, hp⟩ = MR P x k ops rest i r q p d L ⟨sl, hp⟩ (unV op (ev sl a)) :=
  MK_pure P x k ops rest i r q p d L sl hp ty pos af (.unOp op t a) _ rfl rfl (by intros; simp) (by intros; simp) (by intros; simp)
theorem MK_conv (t u : TypeId) (a : Operand) : MK P x k ops rest i ({ dst := d, op := .convert t u a, type := ty, pos := pos, after := af, guard := none } :: r) (p :: q) L ⟨sl, hp⟩ = MX P x k ops rest i r q p d L t u ⟨sl, hp⟩ (ev sl a) (convV P t u (ev sl a)) := by
  rw [MK_op]
  unfold MzOp
  have hpv : pureV P sl (.convert t u a) = convV P t u (ev sl a) := rfl
  simp only [hpv]
  generalize convV P t u (ev sl a) = o
  rcases o with _ | ⟨o1, o2⟩
  · simp only [zCnv, MX]
    generalize cvK P t u (ev sl a) = kk
    rcases kk with _ | ⟨idx, off, len⟩
    · rfl
    · simp only [MD]
      generalize cvB off len hp[idx]? = oo
      rcases oo with _ | ⟨_, _⟩
      · rfl
      · simp only [put_putS]
  · simp only [zCnv, MX, zPure, MR, put_putS]
theorem MK_faddr (t : TypeId) (a : Operand) (f : Nat) : MK P x k ops rest i ({ dst := d, op := .fieldAddr t a f, type := ty, pos := pos, after := af, guard := none } :: r) (p :: q) L ⟨sl, hp⟩ = MR P x k ops rest i r q p d L ⟨sl, hp⟩ (fieldAddrV P t f (ev sl a)) :=
  MK_pure P x k ops rest i r q p d L sl hp ty pos af (.fieldAddr t a f) _ rfl rfl (by intros; simp) (by intros; simp) (by intros; simp)
theorem MK_field (t : TypeId) (a : Operand) (f : Nat) : MK P x k ops rest i ({ dst := d, op := .field t a f, type := ty, pos := pos, after := af, guard := none } :: r) (p :: q) L ⟨sl, hp⟩ = MR P x k ops rest i r q p d L ⟨sl, hp⟩ (fieldV P t f (ev sl a)) :=
  MK_pure P x k ops rest i r q p d L sl hp ty pos af (.field t a f) _ rfl rfl (by intros; simp) (by intros; simp) (by intros; simp)
theorem MK_iaddr (t : TypeId) (a b : Operand) : MK P x k ops rest i ({ dst := d, op := .indexAddr t a b, type := ty, pos := pos, after := af, guard := none } :: r) (p :: q) L ⟨sl, hp⟩ = MR P x k ops rest i r q p d L ⟨sl, hp⟩ (indexAddrV P t (ev sl a) (ev sl b)) :=
  MK_pure P x k ops rest i r q p d L sl hp ty pos af (.indexAddr t a b) _ rfl rfl (by intros; simp) (by intros; simp) (by intros; simp)
theorem MK_index (t : TypeId) (a b : Operand) : MK P x k ops rest i ({ dst := d, op := .index t a b, type := ty, pos := pos, after := af, guard := none } :: r) (p :: q) L ⟨sl, hp⟩ = MR P x k ops rest i r q p d L ⟨sl, hp⟩ (indexV P t (ev sl a) (ev sl b)) :=
  MK_pure P x k ops rest i r q p d L sl hp ty pos af (.index t a b) _ rfl rfl (by intros; simp) (by intros; simp) (by intros; simp)
theorem MK_extract (a : Operand) (j : Nat) : MK P x k ops rest i ({ dst := d, op := .extract a j, type := ty, pos := pos, after := af, guard := none } :: r) (p :: q) L ⟨sl, hp⟩ = MR P x k ops rest i r q p d L ⟨sl, hp⟩ (extractV j (ev sl a)) :=
  MK_pure P x k ops rest i r q p d L sl hp ty pos af (.extract a j) _ rfl rfl (by intros; simp) (by intros; simp) (by intros; simp)
theorem MK_len (a : Operand) (t : TypeId) : MK P x k ops rest i ({ dst := d, op := .call { callee := .builtin .len, args := ⟨[a]⟩, argTypes := ⟨[t]⟩ }, type := ty, pos := pos, after := af, guard := none } :: r) (p :: q) L ⟨sl, hp⟩ = MR P x k ops rest i r q p d L ⟨sl, hp⟩ (lenV P t (ev sl a)) :=
  MK_pure P x k ops rest i r q p d L sl hp ty pos af (.call { callee := .builtin .len, args := ⟨[a]⟩, argTypes := ⟨[t]⟩ }) _ rfl rfl (by intros; simp) (by intros; simp) (by intros; simp)
theorem MK_max (a b : Operand) (ts : Array TypeId) : MK P x k ops rest i ({ dst := d, op := .call { callee := .builtin .max, args := ⟨[a, b]⟩, argTypes := ts }, type := ty, pos := pos, after := af, guard := none } :: r) (p :: q) L ⟨sl, hp⟩ = MR P x k ops rest i r q p d L ⟨sl, hp⟩ (max2V true (ev sl a) (ev sl b)) :=
  MK_pure P x k ops rest i r q p d L sl hp ty pos af (.call { callee := .builtin .max, args := ⟨[a, b]⟩, argTypes := ts }) _ rfl rfl (by intros; simp) (by intros; simp) (by intros; simp)
theorem MK_min (a b : Operand) (ts : Array TypeId) : MK P x k ops rest i ({ dst := d, op := .call { callee := .builtin .min, args := ⟨[a, b]⟩, argTypes := ts }, type := ty, pos := pos, after := af, guard := none } :: r) (p :: q) L ⟨sl, hp⟩ = MR P x k ops rest i r q p d L ⟨sl, hp⟩ (max2V false (ev sl a) (ev sl b)) :=
  MK_pure P x k ops rest i r q p d L sl hp ty pos af (.call { callee := .builtin .min, args := ⟨[a, b]⟩, argTypes := ts }) _ rfl rfl (by intros; simp) (by intros; simp) (by intros; simp)
theorem MK_build (t : TypeId) (ps : List (Nat × Operand)) : MK P x k ops rest i ({ dst := d, op := .build t ⟨ps⟩, type := ty, pos := pos, after := af, guard := none } :: r) (p :: q) L ⟨sl, hp⟩ = MR P x k ops rest i r q p d L ⟨sl, hp⟩ (buildV P t (ps.map fun q => (q.1, ev sl q.2))) :=
  MK_pure P x k ops rest i r q p d L sl hp ty pos af (.build t ⟨ps⟩) _ rfl rfl (by intros; simp) (by intros; simp) (by intros; simp)
theorem MK_mkf (n : Nat) (cs : List Operand) : MK P x k ops rest i ({ dst := d, op := .makeFunc (.func n) ⟨[]⟩ ⟨cs⟩, type := ty, pos := pos, after := af, guard := none } :: r) (p :: q) L ⟨sl, hp⟩ = MR P x k ops rest i r q p d L ⟨sl, hp⟩ (some ((cs.map (ev sl)).all V.solid = true, .f n (cs.map (ev sl)))) :=
  MK_pure P x k ops rest i r q p d L sl hp ty pos af (.makeFunc (.func n) ⟨[]⟩ ⟨cs⟩) _ rfl rfl (by intros; simp) (by intros; simp) (by intros; simp)
theorem MK_alloc (t : TypeId) : MK P x k ops rest i ({ dst := d, op := .alloc t, type := ty, pos := pos, after := af, guard := none } :: r) (p :: q) L ⟨sl, hp⟩ = MN P x k ops rest i r q p d L ⟨sl, hp⟩ ((zeroL P t).map fun z => (True, .p, ⟨z, t, .fix⟩)) :=
  MK_new P x k ops rest i r q p d L sl hp ty pos af (.alloc t) _ rfl (fun _ => rfl) (by intros; simp) (by intros; simp) (by intros; simp)
theorem MK_box (t : TypeId) (a : Operand) : MK P x k ops rest i ({ dst := d, op := .box t a, type := ty, pos := pos, after := af, guard := none } :: r) (p :: q) L ⟨sl, hp⟩ = MN P x k ops rest i r q p d L ⟨sl, hp⟩ (some ((ev sl a).solid = true, .p, ⟨cellsL (ev sl a), t, .fix⟩)) :=
  MK_new P x k ops rest i r q p d L sl hp ty pos af (.box t a) _ rfl (fun _ => rfl) (by intros; simp) (by intros; simp) (by intros; simp)
theorem MK_bsl (t : TypeId) (len : Nat) (ps : List (Nat × Operand)) : MK P x k ops rest i ({ dst := d, op := .buildSlice t len ⟨ps⟩, type := ty, pos := pos, after := af, guard := none } :: r) (p :: q) L ⟨sl, hp⟩ = MN P x k ops rest i r q p d L ⟨sl, hp⟩ ((bslV P 0 t len (ps.map fun q => (q.1, ev sl q.2))).map fun q => (q.1, .s len (.u 0), q.2.2)) :=
  MK_new P x k ops rest i r q p d L sl hp ty pos af (.buildSlice t len ⟨ps⟩) _ rfl (fun _ => rfl) (by intros; simp) (by intros; simp) (by intros; simp)
def mkA (l n : Int) : Option (Prop × V × Blk) → Option (Prop × AV × Blk)
  | some (p, _, b) => some (p, .s l.toNat (.k n.toNat), b)
  | none => none
def mkB (t : TypeId) : V → V → Option (Prop × AV × Blk)
  | .v (.int k1 m), .v (.int k2 n) => mkA m n (mkV P 0 t (.v (.int k1 m)) (.v (.int k2 n)))
  | _, _ => none
theorem mkA_some (l n : Int) (p : Prop) (v : V) (b : Blk) : mkA l n (some (p, v, b)) = some (p, .s l.toNat (.k n.toNat), b) := rfl
theorem mkB_int (t : TypeId) (k1 k2 : IntKind) (m n : Int) : mkB P t (.v (.int k1 m)) (.v (.int k2 n)) = mkA m n (mkV P 0 t (.v (.int k1 m)) (.v (.int k2 n))) := rfl
theorem MK_mk (t : TypeId) (a b : Operand) : MK P x k ops rest i ({ dst := d, op := .makeSlice t a b, type := ty, pos := pos, after := af, guard := none } :: r) (p :: q) L ⟨sl, hp⟩ = MN P x k ops rest i r q p d L ⟨sl, hp⟩ (mkB P t (ev sl a) (ev sl b)) := by
  refine MK_new P x k ops rest i r q p d L sl hp ty pos af (.makeSlice t a b) _ ?_ (fun _ => rfl) (by intros; simp) (by intros; simp) (by intros; simp)
  simp only [newV]
  unfold mkB
  split
  · rename_i e1 e2; rw [e1, e2]; simp only; generalize mkV P 0 t _ _ = o; rcases o with _ | ⟨_, _, _⟩ <;> rfl
  · rename_i h
    split
    · rename_i e1 e2; exact absurd e2 (h _ _ _ _ e1)
    · rfl
end
section
variable {P : Program} {x : Cx} {k : List Kt} {ops : Array Oper} {rest : List Oper} {i : Nat} {r : List Oper} {q : List (List Nat)} {p : List Nat} {d : Option Tmp} {L L' : List (Nat × LE)} {s s' : St}
@[congr] theorem MK_congr (h : s = s') (hL : L = L') : MK P x k ops rest i r q L s = MK P x k ops rest i r q L' s' := by rw [h, hL]
@[congr] theorem MR_congr {o o' : Option (Prop × V)} (h : s = s') (hL : L = L') (ho : o = o') : MR P x k ops rest i r q p d L s o = MR P x k ops rest i r q p d L' s' o' := by rw [h, hL, ho]
@[congr] theorem MX_congr {t u : TypeId} {y y' : V} {o o' : Option (Prop × V)} (h : s = s') (hL : L = L') (hy : y = y') (ho : o = o') : MX P x k ops rest i r q p d L t u s y o = MX P x k ops rest i r q p d L' t u s' y' o' := by rw [h, hL, hy, ho]
@[congr] theorem MD_congr {idx idx' : Nat} {o o' : Option (Prop × V)} (hi : idx = idx') (h : s = s') (hL : L = L') (ho : o = o') : MD P x k ops rest i r q p d L idx s o = MD P x k ops rest i r q p d L' idx' s' o' := by rw [h, hL, ho, hi]
@[congr] theorem ML_congr {t : TypeId} {v v' : V} (h : s = s') (hL : L = L') (ho : v = v') : ML P x k ops rest i r q p d L t s v = ML P x k ops rest i r q p d L' t s' v' := by rw [h, hL, ho]
@[congr] theorem MS_congr {o o' : Option (Prop × Nat × Blk)} (h : s = s') (hL : L = L') (ho : o = o') : MS P x k ops rest i r q p L s o = MS P x k ops rest i r q p L' s' o' := by rw [h, hL, ho]
@[congr] theorem MN_congr {o o' : Option (Prop × AV × Blk)} (h : s = s') (hL : L = L') (ho : o = o') : MN P x k ops rest i r q p d L s o = MN P x k ops rest i r q p d L' s' o' := by rw [h, hL, ho]
@[congr] theorem MC_congr {l l' : List V} {v v' : V} (hl : l = l') (h : s = s') (hL : L = L') (ho : v = v') : MC P x k ops rest i r q p d L l s v = MC P x k ops rest i r q p d L' l' s' v' := by rw [h, hL, ho, hl]
@[congr] theorem MG_congr {op : Op} {ty : TypeId} {pos : String} {af : Array Edge} {o o' : Option Bool} (h : s = s') (hL : L = L') (ho : o = o') : MG P x k ops rest i r q p d L ty pos af op s o = MG P x k ops rest i r q p d L' ty pos af op s' o' := by rw [h, hL, ho]
end
def sbP (v : V) (i off : Nat) : Option Blk → Option Nat → Option (Prop × Nat × Blk)
  | some b, some n => some (b.k.mut = true ∧ v.solid = true ∧ (cellsL v).length = n ∧ off + (cellsL v).length ≤ b.cells.length, i, ⟨wr b.cells off (cellsL v), b.elem, b.k⟩)
  | _, _ => none
theorem sbP_some (v : V) (i off n : Nat) (b : Blk) : sbP v i off (some b) (some n) = some (b.k.mut = true ∧ v.solid = true ∧ (cellsL v).length = n ∧ off + (cellsL v).length ≤ b.cells.length, i, ⟨wr b.cells off (cellsL v), b.elem, b.k⟩) := rfl
theorem stB_p (P : Program) (hp : List Blk) (t : TypeId) (v : V) (i off : Nat) : stB P hp t v (.p i off) = sbP v i off hp[i]? (szo P t) := by
  unfold stB sbP; simp only []; generalize (hp[i]? : Option Blk) = o; rcases o with _ | _ <;> rcases szo P t with _ | _ <;> rfl
theorem at_p (n : Nat) : AV.p.at_ n = .p n 0 := rfl
theorem at_s (l : Nat) (c : Cap) (n : Nat) : (AV.s l c).at_ n = .s n 0 l c := rfl
/- The conditions. -/
section
variable (k a idx j : Nat) (l p hid : List Nat) (L : List (Nat × LE)) (vs : List V)
theorem inL_nil : inL k [] = false := rfl
theorem inL_cons : inL k (a :: l) = if k = a then true else inL k l := rfl
theorem rdE_nil : rdE p idx [] = True := rfl
theorem rdE_wr : rdE p idx ((k, .wr j) :: L) = ((inL k p = true ∨ idx ≠ j) ∧ rdE p idx L) := rfl
theorem rdE_al : rdE p idx ((k, .al j) :: L) = ((inL k p = true ∨ idx ≠ j) ∧ rdE p idx L) := rfl
theorem rdE_rd : rdE p idx ((k, .rd j) :: L) = rdE p idx L := rfl
theorem rdE_cl (n : Nat) : rdE p idx ((k, .cl n hid) :: L) = rdE p idx L := rfl
theorem wrE_nil : wrE p idx [] = True := rfl
theorem wrE_wr : wrE p idx ((k, .wr j) :: L) = ((inL k p = true ∨ idx ≠ j) ∧ wrE p idx L) := rfl
theorem wrE_al : wrE p idx ((k, .al j) :: L) = ((inL k p = true ∨ idx ≠ j) ∧ wrE p idx L) := rfl
theorem wrE_rd : wrE p idx ((k, .rd j) :: L) = ((inL k p = true ∨ idx ≠ j) ∧ wrE p idx L) := rfl
theorem wrE_cl (n : Nat) : wrE p idx ((k, .cl n hid) :: L) = ((inL k p = true ∨ idx ∈ hid ∨ n ≤ idx) ∧ wrE p idx L) := rfl
theorem clE_nil : clE p hid [] = True := rfl
theorem clE_wr : clE p hid ((k, .wr j) :: L) = ((inL k p = true ∨ j ∈ hid) ∧ clE p hid L) := rfl
theorem clE_al : clE p hid ((k, .al j) :: L) = ((inL k p = true ∨ j ∈ hid) ∧ clE p hid L) := rfl
theorem clE_rd : clE p hid ((k, .rd j) :: L) = clE p hid L := rfl
theorem clE_cl (n : Nat) (h2 : List Nat) : clE p hid ((k, .cl n h2) :: L) = clE p hid L := rfl
theorem noE_nil : noE p vs [] = True := rfl
theorem noE_wr : noE p vs ((k, .wr j) :: L) = noE p vs L := rfl
theorem noE_al : noE p vs ((k, .al j) :: L) = ((inL k p = true ∨ norefs j vs = true) ∧ noE p vs L) := rfl
theorem noE_rd : noE p vs ((k, .rd j) :: L) = noE p vs L := rfl
theorem noE_cl (n : Nat) (h2 : List Nat) : noE p vs ((k, .cl n h2) :: L) = noE p vs L := rfl
theorem norefs_nil : norefs j [] = true := rfl
theorem norefs_one (v : V) : norefs j [v] = V.noref j v := by simp [norefs]
theorem noref_v (z : Value) : V.noref j (.v z) = true := rfl
theorem noref_any : V.noref j .any = true := rfl
theorem noref_p (o : Nat) : V.noref j (.p idx o) = (idx != j) := rfl
theorem noref_s (o n : Nat) (c : Cap) : V.noref j (.s idx o n c) = (idx != j) := rfl
theorem noref_a : V.noref j (.a vs) = norefs j vs := by simp [V.noref]
theorem noref_t : V.noref j (.t vs) = norefs j vs := by simp [V.noref]
end
/- A guard. -/
def gvP (b : Bool) : V → Option Bool
  | .v (.bool y) => some (y == b)
  | .t [] => some false
  | _ => none
def guP (b : Bool) (sl : List V) : Option Tmp → Option Bool
  | some d => gvP b (nth sl d)
  | none => none
theorem gvP_t (y : Bool) : gvP true (.v (.bool y)) = some y := by cases y <;> rfl
theorem gvP_f (y : Bool) : gvP false (.v (.bool y)) = some (!y) := by cases y <;> rfl
theorem gvP_s (b : Bool) : gvP b (.t []) = some false := rfl
theorem guP_some (b : Bool) (sl : List V) (d : Tmp) : guP b sl (some d) = gvP b (nth sl d) := rfl
theorem guardV_some (l : List Oper) (sl : List V) (d : Option Tmp) (op : Op) (ty : TypeId) (pos : String) (af : Array Edge) (j : Nat) (b : Bool) :
    guardV ⟨l⟩ sl { dst := d, op := op, type := ty, pos := pos, after := af, guard := some (j, b) } = guP b sl ((l[j]?).bind (·.dst)) := by
  unfold guardV guP gvP
  simp only [List.getElem?_toArray]
  generalize (l[j]?.bind fun x => x.dst) = o
  cases o <;> rfl
attribute [go_sem] Option.isSome_some MX_some MX_row cvB_some Option.map_some MK_nil MR_some MD_some ML_p MS_some MN_some MG_some MK_guard MK_load MK_store MK_call MK_move MK_assign MK_pick MK_nilc MK_bin MK_un MK_conv MK_faddr MK_field MK_iaddr MK_index MK_extract MK_len MK_max MK_min MK_build MK_mkf MK_alloc MK_box MK_bsl gvP_t gvP_f gvP_s guP_some guardV_some mkA_some mkB_int MK_mk sbP_some stB_p at_p at_s inL_nil inL_cons rdE_nil rdE_wr rdE_al rdE_rd rdE_cl wrE_nil wrE_wr wrE_al wrE_rd wrE_cl clE_nil clE_wr clE_al clE_rd clE_cl noE_nil noE_wr noE_al noE_rd noE_cl norefs_nil norefs_one noref_v noref_any noref_p noref_s noref_a noref_t Option.bind_some Bool.not_not true_or or_true false_or or_false bne_iff_ne ne_eq true_implies beq_self_eq_true Bool.and_self Bool.and_false Bool.false_and
end Go.Sx
namespace Go.Sx
open Go.RowKit

/-- n numbers of kind k. -/
def rowL (k : IntKind) (n : Nat) (f : Nat → Int) : List V := (List.range n).map fun j => .v (.int k (f j))
def allEq (n : Nat) (f g : Nat → Int) : Bool := (List.range n).all fun j => decide (f j = g j)
section
variable (k : IntKind) (n m : Nat) (f g : Nat → Int) (c : List V)
@[go_sem] theorem rowL_length : (rowL k n f).length = n := by simp [rowL]
theorem rowL_get {j : Nat} (h : j < n) : (rowL k n f)[j]? = some (.v (.int k (f j))) := by simp [rowL, h]
theorem rowL_cons : rowL k (n + 1) f = .v (.int k (f 0)) :: rowL k n (fun j => f (j + 1)) := by simp [rowL, List.range_succ_eq_map, Function.comp_def]
@[go_sem] theorem rowL_seg : seg (rowL k n f) 0 n = rowL k n f := by unfold seg; rw [List.drop_zero, List.take_of_length_le]; simp [rowL]
@[go_sem] theorem rowL_segl : seg (rowL k n f ++ c) 0 n = rowL k n f := by unfold seg; rw [List.drop_zero, List.take_append_of_le_length (by simp [rowL]), List.take_of_length_le]; simp [rowL]
@[go_sem] theorem rowL_segr : seg (rowL k n f ++ c) n m = seg c 0 m := by unfold seg; rw [List.drop_append_of_le_length (by simp [rowL]), List.drop_of_length_le (by simp [rowL])]; simp
@[go_sem] theorem rowL_okV : okV (List.replicate n (.i k)) (rowL k n f) = true := by
  induction n generalizing f with
  | zero => rfl
  | succ n ih => rw [rowL_cons, List.replicate_succ]; simp [okV, ih]
theorem okV_app {ks ls : List KD} {xs ys : List V} (h : okV ks xs = true) (h' : okV ls ys = true) : okV (ks ++ ls) (xs ++ ys) = true := by
  induction ks generalizing xs with
  | nil => have := okV_len h; cases xs with
    | nil => exact h'
    | cons _ _ => simp at this
  | cons a ks ih =>
    cases xs with
    | nil => have := okV_len h; simp at this
    | cons x xs =>
      cases a with
      | b => cases x with
        | v z => cases z <;> simp only [okV, Bool.false_eq_true] at h; simp only [List.cons_append, okV]; exact ih h
        | _ => simp [okV] at h
      | i q => cases x with
        | v z => cases z <;> simp only [okV, Bool.false_eq_true, Bool.and_eq_true] at h; simp only [List.cons_append, okV, Bool.and_eq_true]; exact ⟨h.1, ih h.2⟩
        | _ => simp [okV] at h
@[go_sem] theorem rowL_okV2 : okV (List.replicate (n + m) (.i k)) (rowL k n f ++ rowL k m g) = true := by
  rw [← List.replicate_append_replicate]; exact okV_app (rowL_okV k n f) (rowL_okV k m g)
@[go_sem] theorem rowL_eqL (k' : IntKind) : eqL (rowL k n f) (rowL k' n g) = allEq n f g := by
  induction n generalizing f g with
  | zero => rfl
  | succ n ih =>
    rw [rowL_cons, rowL_cons, eqL, ih]
    simp [allEq, List.range_succ_eq_map, Function.comp_def]
theorem rowL_mem {x : V} (h : x ∈ rowL k n f) : ∃ j, j < n ∧ x = .v (.int k (f j)) := by
  unfold rowL at h
  obtain ⟨j, hj, rfl⟩ := List.mem_map.1 h
  exact ⟨j, List.mem_range.1 hj, rfl⟩
@[go_sem] theorem rowL_lts : lts m (rowL k n f) = True := by
  apply eq_true; rw [lts_iff]; intro x hx; obtain ⟨j, _, rfl⟩ := rowL_mem k n f hx; rfl
@[go_sem] theorem rowL_one : (rowL k n f).all V.one = true := by
  rw [List.all_eq_true]; intro x hx; obtain ⟨j, _, rfl⟩ := rowL_mem k n f hx; rfl
@[go_sem] theorem rowL_norefs : norefs m (rowL k n f) = true := by
  rw [norefs_all, List.all_eq_true]; intro x hx; obtain ⟨j, _, rfl⟩ := rowL_mem k n f hx; rfl
end
@[go_sem] theorem lt_a (m : Nat) (cs : List V) : V.lt m (.a cs) = (lts m cs ∧ cs.all V.one = true) := by simp [V.lt]
@[go_sem] theorem lt_t (m : Nat) (cs : List V) : V.lt m (.t cs) = lts m cs := by simp [V.lt]
@[go_sem] theorem lt_int (m : Nat) (k : IntKind) (n : Int) : V.lt m (.v (.int k n)) = True := eq_true rfl
@[go_sem] theorem lt_bool (m : Nat) (b : Bool) : V.lt m (.v (.bool b)) = True := eq_true rfl
@[go_sem] theorem lt_iface (m : Nat) : V.lt m (.v .nilIface) = True := eq_true rfl
@[go_sem] theorem lt_ptr (m : Nat) : V.lt m (.v (.pointer none)) = True := eq_true rfl
@[go_sem] theorem lt_str (m : Nat) (b : ByteArray) : V.lt m (.v (.string b)) = True := eq_true rfl
@[go_sem] theorem lts_nil (m : Nat) : lts m [] = True := by simp [lts]
@[go_sem] theorem lts_cons (m : Nat) (x : V) (xs : List V) : lts m (x :: xs) = (V.lt m x ∧ lts m xs) := by simp [lts]
@[go_sem] theorem lts_app (m : Nat) (xs ys : List V) : lts m (xs ++ ys) = (lts m xs ∧ lts m ys) := by
  simp only [lts_iff, List.mem_append]; apply propext; constructor
  · intro h; exact ⟨fun x hx => h x (.inl hx), fun x hx => h x (.inr hx)⟩
  · rintro ⟨h1, h2⟩ x (hx | hx)
    · exact h1 x hx
    · exact h2 x hx
@[go_sem] theorem norefs_app (m : Nat) (xs ys : List V) : norefs m (xs ++ ys) = (norefs m xs && norefs m ys) := by simp [norefs_all]
@[go_sem] theorem norefs_cons (m : Nat) (x : V) (xs : List V) : norefs m (x :: xs) = (V.noref m x && norefs m xs) := by simp [norefs_all]
attribute [go_sem] List.all_append List.all_cons List.all_nil Bool.and_true Bool.true_and Bool.and_eq_true
@[go_sem] theorem one_int (k : IntKind) (n : Int) : V.one (.v (.int k n)) = true := rfl
@[go_sem] theorem one_bool (b : Bool) : V.one (.v (.bool b)) = true := rfl
@[go_sem] theorem solid_a (cs : List V) : V.solid (.a cs) = true := rfl

/-- Block i holds the cells cs from off on. -/
structure At (H : List Blk) (i off : Nat) (cs : List V) (b : Blk) : Prop where
  get : H[i]? = some b
  live : b.k.live = true
  sg : seg b.cells off cs.length = cs
theorem seg_len {cs : List V} {off n : Nat} (h : (seg cs off n).length = n) (hn : 0 < n) : off + n ≤ cs.length := by
  unfold seg at h; rw [List.length_take, List.length_drop] at h; omega
theorem At.len {H : List Blk} {i off : Nat} {cs : List V} {b : Blk} (h : At H i off cs b) (hn : 0 < cs.length) : off + cs.length ≤ b.cells.length := seg_len (by rw [h.sg]) hn
theorem At.cel {H : List Blk} {i off : Nat} {k : IntKind} {n : Nat} {f : Nat → Int} {b : Blk} (h : At H i off (rowL k n f) b) {j : Nat} (hj : j < n) : cel b.cells (off + j) = .v (.int k (f j)) := by
  have h1 : (seg b.cells off (rowL k n f).length)[j]? = some (.v (.int k (f j))) := by rw [h.sg]; exact rowL_get k n f hj
  unfold seg at h1
  rw [rowL_length, List.getElem?_take, if_pos hj, List.getElem?_drop] at h1
  rw [Go.Sx.cel, nth_eq, h1]; rfl
theorem At.lt {H : List Blk} {i off : Nat} {cs : List V} {b : Blk} (h : At H i off cs b) : i < H.length := (List.getElem?_eq_some_iff.1 h.get).1
theorem At.app {H L : List Blk} {i off : Nat} {cs : List V} {b : Blk} (h : At H i off cs b) : At (H ++ L) i off cs b := ⟨get_app h.get, h.live, h.sg⟩
theorem seg_app (a b : List V) : seg (a ++ b) 0 a.length = a := by unfold seg; simp
/-- A part of it. -/
theorem At.left {H : List Blk} {i off : Nat} {cs ds : List V} {b : Blk} (h : At H i off (cs ++ ds) b) : At H i off cs b := by
  refine ⟨h.get, h.live, ?_⟩
  have := congrArg (List.take cs.length) h.sg
  unfold seg at this ⊢
  rw [List.take_take, List.length_append, Nat.min_eq_left (by omega)] at this
  rw [this]; simp
theorem At.right {H : List Blk} {i off : Nat} {cs ds : List V} {b : Blk} (h : At H i off (cs ++ ds) b) : At H i (off + cs.length) ds b := by
  refine ⟨h.get, h.live, ?_⟩
  have := congrArg (List.drop cs.length) h.sg
  unfold seg at this ⊢
  rw [List.drop_take, List.drop_drop, List.length_append, Nat.add_sub_cancel_left] at this
  rw [this]; simp
theorem At.mk' {H L : List Blk} {cs : List V} {t : TypeId} {k : BK} (n : Nat) (h : L[n]? = some ⟨cs, t, k⟩) (hk : k.live = true) : At (H ++ L) (H.length + n) 0 cs ⟨cs, t, k⟩ :=
  ⟨by rw [get_at]; exact h, hk, by unfold seg; simp⟩
theorem At.mk0 {H L : List Blk} {cs : List V} {t : TypeId} {k : BK} (hk : k.live = true) : At (H ++ ⟨cs, t, k⟩ :: L) H.length 0 cs ⟨cs, t, k⟩ :=
  ⟨by rw [get_at0]; rfl, hk, by unfold seg; simp⟩

section
variable {P : Program} {x : Cx} {k : List Kt} {ops : Array Oper} {rest r : List Oper} {i : Nat} {q : List (List Nat)} {p : List Nat} {d : Option Tmp} {L : List (Nat × LE)} {sl : List V} {hp : List Blk}
theorem call_ret {args : List V} {n : Nat} {cs : List V} {v : V} {H' : List Blk} (hc : Cal P n (args ++ cs) hp fun v1 H1 => v1 = v ∧ H1 = H') (hs : args.all V.solid = true) (h : LK P x k ops r ⟨putS sl d v, H'⟩) : SK P x k ops r d args ⟨sl, hp⟩ (.f n cs) :=
  SK_ret P x k ops r d hc hs h
theorem mcall_ret {args : List V} {n : Nat} {cs : List V} {v : V} (hc : Cal P n (args ++ cs) hp fun v1 H1 => v1 = v ∧ H1 = hp) (hs : args.all V.solid = true) (hl : V.lt hp.length v) (h : clE p [] L ∧ noE p [v] L ∧ MK P x k ops rest (i + 1) r q ((i, .cl hp.length []) :: L) ⟨putS sl d v, hp⟩) : MC P x k ops rest i r q p d L args ⟨sl, hp⟩ (.f n cs) :=
  MC_ret P x k ops rest i r q p d L hc hs hl h
end
end Go.Sx
namespace Go.Sx
open Go.RowKit

/- Values built of parts. -/
section
variable (P : Program) (n : Nat) (t : TypeId)
def fpP (place : Nat → Option (Nat × Nat)) (cells : List V) (x : V) (r : List (Nat × V)) : Option (Nat × Nat) → Option (Prop × List V)
  | some (off, size) => (fillV place (wr cells off (cellsL x)) r).map fun q => ((x.solid = true ∧ (cellsL x).length = size ∧ off + (cellsL x).length ≤ cells.length) ∧ q.1, q.2)
  | none => none
theorem fillV_nil (place : Nat → Option (Nat × Nat)) (cells : List V) : fillV place cells [] = some (True, cells) := rfl
theorem fillV_cons (place : Nat → Option (Nat × Nat)) (cells : List V) (i : Nat) (x : V) (r : List (Nat × V)) : fillV place cells ((i, x) :: r) = fpP place cells x r (place i) := by
  rw [fillV]; unfold fpP; cases place i with
  | none => rfl
  | some y => rfl
theorem fpP_some (place : Nat → Option (Nat × Nat)) (cells : List V) (x : V) (r : List (Nat × V)) (off size : Nat) : fpP place cells x r (some (off, size)) = (fillV place (wr cells off (cellsL x)) r).map fun q => ((x.solid = true ∧ (cellsL x).length = size ∧ off + (cellsL x).length ≤ cells.length) ∧ q.1, q.2) := rfl
theorem place_st (l : List (Nat × Nat)) (i : Nat) : (Bld.st l).place i = l[i]? := rfl
theorem place_ar (z i : Nat) : (Bld.ar z).place i = some (i * z, z) := rfl
def blP (parts : List (Nat × V)) : Option Bld → Option (List V) → Option (Prop × V)
  | some b, some z => (fillV b.place z parts).map fun q => (q.1, .a q.2)
  | _, _ => none
theorem blP_some (parts : List (Nat × V)) (b : Bld) (z : List V) : blP parts (some b) (some z) = (fillV b.place z parts).map fun q => (q.1, .a q.2) := rfl
theorem buildV_eq (parts : List (Nat × V)) : buildV P t parts = blP parts (bld P t) (zeroL P t) := by
  unfold buildV blP; rcases bld P t with _ | _ <;> rcases zeroL P t with _ | _ <;> rfl
def bqP (P : Program) (n len : Nat) (parts : List (Nat × V)) (e z : Nat) : Option (List V) → Option (Prop × V × Blk)
  | some zs => (fillV (fun i => some (i * z, z)) (zerosL zs len) parts).map fun q => ((len * z ≤ 16777216 ∧ q.1), .s n 0 len (.u 0), ⟨q.2, e, .own z⟩)
  | none => none
def bsP (P : Program) (n len : Nat) (parts : List (Nat × V)) : Option (TypeId × Nat × Nat) → Option (Prop × V × Blk)
  | some (e, z, _) => bqP P n len parts e z (zeroL P e)
  | none => none
theorem bqP_some (len : Nat) (parts : List (Nat × V)) (e z : Nat) (zs : List V) : bqP P n len parts e z (some zs) = (fillV (fun i => some (i * z, z)) (zerosL zs len) parts).map fun q => ((len * z ≤ 16777216 ∧ q.1), .s n 0 len (.u 0), ⟨q.2, e, .own z⟩) := rfl
theorem bsP_some (len : Nat) (parts : List (Nat × V)) (e z b : Nat) : bsP P n len parts (some (e, z, b)) = bqP P n len parts e z (zeroL P e) := rfl
theorem bslV_eq (len : Nat) (parts : List (Nat × V)) : bslV P n t len parts = bsP P n len parts (slo P t) := by
  unfold bslV bsP bqP; rcases slo P t with _ | ⟨e, _, _⟩
  · rfl
  · simp only; cases zeroL P e <;> rfl
def mqP (n : Nat) (l c : Int) (e b : Nat) : Option (List V) → Option (Prop × V × Blk)
  | some zs => some (0 ≤ l ∧ l ≤ c ∧ c ≤ 140737488355328 ∧ c * b ≤ 281474976710656, .s n 0 l.toNat (.k c.toNat), ⟨zerosL zs c.toNat, e, .fix⟩)
  | none => none
def mmP (P : Program) (n : Nat) (l c : Int) : Option (TypeId × Nat × Nat) → Option (Prop × V × Blk)
  | some (e, _, b) => mqP n l c e b (zeroL P e)
  | none => none
theorem mqP_some (l c : Int) (e b : Nat) (zs : List V) : mqP n l c e b (some zs) = some (0 ≤ l ∧ l ≤ c ∧ c ≤ 140737488355328 ∧ c * b ≤ 281474976710656, .s n 0 l.toNat (.k c.toNat), ⟨zerosL zs c.toNat, e, .fix⟩) := rfl
theorem mmP_some (l c : Int) (e z b : Nat) : mmP P n l c (some (e, z, b)) = mqP n l c e b (zeroL P e) := rfl
theorem mkV_int (k1 k2 : IntKind) (l c : Int) : mkV P n t (.v (.int k1 l)) (.v (.int k2 c)) = mmP P n l c (slo P t) := by
  unfold mkV mmP mqP; rcases slo P t with _ | ⟨e, _, _⟩
  · rfl
  · simp only; cases zeroL P e <;> rfl

/- Slices of slices. -/
def skP (i off len c : Nat) : Option (Option Int) → Option (Option Int) → Option (Option Int) → Option (Bool × Nat × Nat) → Option (Prop × V)
  | some l, some h, some m, some (false, _, z) => some (0 ≤ l.getD 0 ∧ l.getD 0 ≤ h.getD len ∧ h.getD len ≤ m.getD c ∧ m.getD c ≤ c ∧ (m = none ∨ h.isSome = true), .s i (if (m.getD c).toNat = (l.getD 0).toNat then off else off + (l.getD 0).toNat * z) ((h.getD len).toNat - (l.getD 0).toNat) (.k ((m.getD c).toNat - (l.getD 0).toNat)))
  | _, _, _, _ => none
theorem skP_some (i off len c : Nat) (l h m : Option Int) (w z : Nat) : skP i off len c (some l) (some h) (some m) (some (false, w, z)) = some (0 ≤ l.getD 0 ∧ l.getD 0 ≤ h.getD len ∧ h.getD len ≤ m.getD c ∧ m.getD c ≤ c ∧ (m = none ∨ h.isSome = true), .s i (if (m.getD c).toNat = (l.getD 0).toNat then off else off + (l.getD 0).toNat * z) ((h.getD len).toNat - (l.getD 0).toNat) (.k ((m.getD c).toNat - (l.getD 0).toNat))) := rfl
theorem sliceV_k (R : Nat → Int → Prop) (i off len c : Nat) (lo hi mx : Option V) : sliceV P R t (.s i off len (.k c)) lo hi mx = skP i off len c (bnd lo) (bnd hi) (bnd mx) (rowo P t) := by
  unfold sliceV skP
  rcases bnd lo with _ | l <;> rcases bnd hi with _ | h <;> rcases bnd mx with _ | m <;> rcases rowo P t with _ | ⟨_ | _, _, _⟩ <;> rfl
def suP (R : Nat → Int → Prop) (i off len c : Nat) : Option (Option Int) → Option (Option Int) → Option (Option Int) → Option (Bool × Nat × Nat) → Option (Prop × V)
  | some l, some none, some none, some (false, _, z) => some (0 ≤ l.getD 0 ∧ l.getD 0 ≤ (len : Int), if 0 < l.getD 0 ∧ l.getD 0 = (len : Int) then .e i off c (l.getD 0).toNat z else .s i (off + (l.getD 0).toNat * z) ((len : Int).toNat - (l.getD 0).toNat) (.u (c + (l.getD 0).toNat)))
  | some l, some (some h), some none, some (false, _, z) => some (0 ≤ l.getD 0 ∧ l.getD 0 ≤ h ∧ (h ≤ (len : Int) ∨ (l.getD 0 ≤ (len : Int) ∧ R z h)), if 0 < l.getD 0 ∧ l.getD 0 = (len : Int) then (if h ≤ (len : Int) then .e i off c (l.getD 0).toNat z else .s i (off + (l.getD 0).toNat * z) (h.toNat - (l.getD 0).toNat) (.i (c + (l.getD 0).toNat))) else .s i (off + (l.getD 0).toNat * z) (h.toNat - (l.getD 0).toNat) (.i (c + (l.getD 0).toNat)))
  | some l, some (some h), some (some m), some (false, _, z) => some (0 ≤ l.getD 0 ∧ l.getD 0 ≤ h ∧ h ≤ m ∧ m ≤ (len : Int), .s i (if m.toNat = (l.getD 0).toNat then off else off + (l.getD 0).toNat * z) (h.toNat - (l.getD 0).toNat) (.k (m.toNat - (l.getD 0).toNat)))
  | _, _, _, _ => none
theorem suP_none (R : Nat → Int → Prop) (i off len c : Nat) (l : Option Int) (w z : Nat) : suP R i off len c (some l) (some none) (some none) (some (false, w, z)) = some (0 ≤ l.getD 0 ∧ l.getD 0 ≤ (len : Int), if 0 < l.getD 0 ∧ l.getD 0 = (len : Int) then .e i off c (l.getD 0).toNat z else .s i (off + (l.getD 0).toNat * z) ((len : Int).toNat - (l.getD 0).toNat) (.u (c + (l.getD 0).toNat))) := rfl
theorem suP_some (R : Nat → Int → Prop) (i off len c : Nat) (l : Option Int) (h : Int) (w z : Nat) : suP R i off len c (some l) (some (some h)) (some none) (some (false, w, z)) = some (0 ≤ l.getD 0 ∧ l.getD 0 ≤ h ∧ (h ≤ (len : Int) ∨ (l.getD 0 ≤ (len : Int) ∧ R z h)), if 0 < l.getD 0 ∧ l.getD 0 = (len : Int) then (if h ≤ (len : Int) then .e i off c (l.getD 0).toNat z else .s i (off + (l.getD 0).toNat * z) (h.toNat - (l.getD 0).toNat) (.i (c + (l.getD 0).toNat))) else .s i (off + (l.getD 0).toNat * z) (h.toNat - (l.getD 0).toNat) (.i (c + (l.getD 0).toNat))) := rfl
theorem suP_three (R : Nat → Int → Prop) (i off len c : Nat) (l : Option Int) (h m : Int) (w z : Nat) : suP R i off len c (some l) (some (some h)) (some (some m)) (some (false, w, z)) = some (0 ≤ l.getD 0 ∧ l.getD 0 ≤ h ∧ h ≤ m ∧ m ≤ (len : Int), .s i (if m.toNat = (l.getD 0).toNat then off else off + (l.getD 0).toNat * z) (h.toNat - (l.getD 0).toNat) (.k (m.toNat - (l.getD 0).toNat))) := rfl
theorem sliceV_u (R : Nat → Int → Prop) (i off len c : Nat) (lo hi mx : Option V) : sliceV P R t (.s i off len (.u c)) lo hi mx = suP R i off len c (bnd lo) (bnd hi) (bnd mx) (rowo P t) := by
  unfold sliceV suP
  rcases bnd lo with _ | l <;> rcases bnd hi with _ | _ | h <;> rcases bnd mx with _ | (_ | m) <;> rcases rowo P t with _ | ⟨_ | _, _, _⟩ <;> simp [topV, restV]
def siP (R : Nat → Int → Prop) (i off len c : Nat) : Option (Option Int) → Option (Option Int) → Option (Option Int) → Option (Bool × Nat × Nat) → Option (Prop × V)
  | some l, some none, some none, some (false, _, z) => some (0 ≤ l.getD 0 ∧ l.getD 0 ≤ (len : Int), if 0 < l.getD 0 ∧ l.getD 0 = (len : Int) then .e i off c (l.getD 0).toNat z else .s i (off + (l.getD 0).toNat * z) ((len : Int).toNat - (l.getD 0).toNat) (.i (c + (l.getD 0).toNat)))
  | some l, some (some h), some none, some (false, _, z) => some (0 ≤ l.getD 0 ∧ l.getD 0 ≤ h ∧ (h ≤ (len : Int) ∨ (l.getD 0 ≤ (len : Int) ∧ R z h)), if 0 < l.getD 0 ∧ l.getD 0 = (len : Int) then (if h ≤ (len : Int) then .e i off c (l.getD 0).toNat z else .s i (off + (l.getD 0).toNat * z) (h.toNat - (l.getD 0).toNat) (.i (c + (l.getD 0).toNat))) else .s i (off + (l.getD 0).toNat * z) (h.toNat - (l.getD 0).toNat) (.i (c + (l.getD 0).toNat)))
  | some l, some (some h), some (some m), some (false, _, z) => some (0 ≤ l.getD 0 ∧ l.getD 0 ≤ h ∧ h ≤ m ∧ m ≤ (len : Int), .s i (if m.toNat = (l.getD 0).toNat then off else off + (l.getD 0).toNat * z) (h.toNat - (l.getD 0).toNat) (.k (m.toNat - (l.getD 0).toNat)))
  | _, _, _, _ => none
theorem siP_none (R : Nat → Int → Prop) (i off len c : Nat) (l : Option Int) (w z : Nat) : siP R i off len c (some l) (some none) (some none) (some (false, w, z)) = some (0 ≤ l.getD 0 ∧ l.getD 0 ≤ (len : Int), if 0 < l.getD 0 ∧ l.getD 0 = (len : Int) then .e i off c (l.getD 0).toNat z else .s i (off + (l.getD 0).toNat * z) ((len : Int).toNat - (l.getD 0).toNat) (.i (c + (l.getD 0).toNat))) := rfl
theorem siP_some (R : Nat → Int → Prop) (i off len c : Nat) (l : Option Int) (h : Int) (w z : Nat) : siP R i off len c (some l) (some (some h)) (some none) (some (false, w, z)) = some (0 ≤ l.getD 0 ∧ l.getD 0 ≤ h ∧ (h ≤ (len : Int) ∨ (l.getD 0 ≤ (len : Int) ∧ R z h)), if 0 < l.getD 0 ∧ l.getD 0 = (len : Int) then (if h ≤ (len : Int) then .e i off c (l.getD 0).toNat z else .s i (off + (l.getD 0).toNat * z) (h.toNat - (l.getD 0).toNat) (.i (c + (l.getD 0).toNat))) else .s i (off + (l.getD 0).toNat * z) (h.toNat - (l.getD 0).toNat) (.i (c + (l.getD 0).toNat))) := rfl
theorem siP_three (R : Nat → Int → Prop) (i off len c : Nat) (l : Option Int) (h m : Int) (w z : Nat) : siP R i off len c (some l) (some (some h)) (some (some m)) (some (false, w, z)) = some (0 ≤ l.getD 0 ∧ l.getD 0 ≤ h ∧ h ≤ m ∧ m ≤ (len : Int), .s i (if m.toNat = (l.getD 0).toNat then off else off + (l.getD 0).toNat * z) (h.toNat - (l.getD 0).toNat) (.k (m.toNat - (l.getD 0).toNat))) := rfl
theorem sliceV_i (R : Nat → Int → Prop) (i off len c : Nat) (lo hi mx : Option V) : sliceV P R t (.s i off len (.i c)) lo hi mx = siP R i off len c (bnd lo) (bnd hi) (bnd mx) (rowo P t) := by
  unfold sliceV siP
  rcases bnd lo with _ | l <;> rcases bnd hi with _ | _ | h <;> rcases bnd mx with _ | (_ | m) <;> rcases rowo P t with _ | ⟨_ | _, _, _⟩ <;> simp [topV, restV]
/-- The reach. -/
def rtP (c z : Nat) (h : Int) : Option Blk → Prop
  | some b => match b.k with
    | .own z' => z' = z ∧ 0 < z ∧ (c + h.toNat) * z ≤ b.cells.length
    | _ => False
  | none => False
theorem rtP_own (c z : Nat) (h : Int) (cs : List V) (ty : TypeId) (z' : Nat) : rtP c z h (some ⟨cs, ty, .own z'⟩) = (z' = z ∧ 0 < z ∧ (c + h.toNat) * z ≤ cs.length) := rfl
theorem rtP_fix (c z : Nat) (h : Int) (cs : List V) (ty : TypeId) : rtP c z h (some ⟨cs, ty, .fix⟩) = False := rfl
theorem reachTo_u (hp : List Blk) (i off len c z : Nat) (h : Int) : reachTo hp (.s i off len (.u c)) z h = rtP c z h hp[i]? := rfl
theorem reachTo_i (hp : List Blk) (i off len c z : Nat) (h : Int) : reachTo hp (.s i off len (.i c)) z h = rtP c z h hp[i]? := rfl
/- clear. -/
def ckP (sl : List V) (hp : List Blk) (i off len z : Nat) (zs : List V) : Option Blk → Option (Prop × V × St)
  | some b => some (b.k.mut = true ∧ 0 < len ∧ off + len * z ≤ b.cells.length, .t [], ⟨sl, hp.set i ⟨wr b.cells off (zerosL zs len), b.elem, b.k⟩⟩)
  | none => none
theorem ckP_some (sl : List V) (hp : List Blk) (i off len z : Nat) (zs : List V) (b : Blk) : ckP sl hp i off len z zs (some b) = some (b.k.mut = true ∧ 0 < len ∧ off + len * z ≤ b.cells.length, .t [], ⟨sl, hp.set i ⟨wr b.cells off (zerosL zs len), b.elem, b.k⟩⟩) := rfl
def cjP (sl : List V) (hp : List Blk) (i off len z : Nat) : Option (List V) → Option (Prop × V × St)
  | some zs => ckP sl hp i off len z zs hp[i]?
  | none => none
theorem cjP_some (sl : List V) (hp : List Blk) (i off len z : Nat) (zs : List V) : cjP sl hp i off len z (some zs) = ckP sl hp i off len z zs hp[i]? := rfl
def ciP (P : Program) (sl : List V) (hp : List Blk) (i off len : Nat) : Option (TypeId × Nat × Nat) → Option (Prop × V × St)
  | some (e, z, _) => cjP sl hp i off len z (zeroL P e)
  | none => none
theorem ciP_some (sl : List V) (hp : List Blk) (i off len : Nat) (e z by_ : Nat) : ciP P sl hp i off len (some (e, z, by_)) = cjP sl hp i off len z (zeroL P e) := rfl
theorem clrV_s (sl : List V) (hp : List Blk) (i off len : Nat) (c : Cap) : clrV P ⟨sl, hp⟩ t (.s i off len c) = ciP P sl hp i off len (slo P t) := by
  unfold clrV ciP
  rcases slo P t with _ | ⟨e, z, b⟩
  · rfl
  · simp only [cjP]
    rcases zeroL P e with _ | zs
    · rfl
    · simp only [ckP]
      generalize (hp[i]? : Option Blk) = o
      rcases o with _ | b' <;> rfl
def spP (i off : Nat) : Option (Option Int) → Option (Option Int) → Option (Option Int) → Option (Bool × Nat × Nat) → Option (Prop × V)
  | some l, some h, some none, some (true, n, z) => some (0 ≤ l.getD 0 ∧ l.getD 0 ≤ h.getD n ∧ h.getD n ≤ n, .s i (if n = (l.getD 0).toNat then off else off + (l.getD 0).toNat * z) ((h.getD n).toNat - (l.getD 0).toNat) (.k (n - (l.getD 0).toNat)))
  | _, _, _, _ => none
theorem spP_some (i off : Nat) (l h : Option Int) (n z : Nat) : spP i off (some l) (some h) (some none) (some (true, n, z)) = some (0 ≤ l.getD 0 ∧ l.getD 0 ≤ h.getD n ∧ h.getD n ≤ n, .s i (if n = (l.getD 0).toNat then off else off + (l.getD 0).toNat * z) ((h.getD n).toNat - (l.getD 0).toNat) (.k (n - (l.getD 0).toNat))) := rfl
theorem sliceV_p (R : Nat → Int → Prop) (i off : Nat) (lo hi mx : Option V) : sliceV P R t (.p i off) lo hi mx = spP i off (bnd lo) (bnd hi) (bnd mx) (rowo P t) := by
  unfold sliceV spP
  rcases bnd lo with _ | l <;> rcases bnd hi with _ | h <;> rcases bnd mx with _ | (_ | m) <;> rcases rowo P t with _ | ⟨_ | _, _, _⟩ <;> rfl
theorem bnd_none : bnd none = some none := rfl
theorem bnd_int (k : IntKind) (m : Int) : bnd (some (.v (.int k m))) = some (some m) := rfl
theorem capOk_k (hp : List Blk) (i off len c : Nat) : capOk hp (.s i off len (.k c)) = True := rfl
theorem capOk_p (hp : List Blk) (i off : Nat) : capOk hp (.p i off) = True := rfl
def coP (c len : Nat) : Option Blk → Prop
  | some ⟨cs, _, .own z⟩ => 0 < z ∧ (c + len) * z ≤ cs.length
  | _ => False
theorem coP_some (c len z : Nat) (cs : List V) (e : TypeId) : coP c len (some ⟨cs, e, .own z⟩) = (0 < z ∧ (c + len) * z ≤ cs.length) := rfl
theorem capOk_u (hp : List Blk) (i off len c : Nat) : capOk hp (.s i off len (.u c)) = coP c len hp[i]? := by
  unfold capOk coP
  simp only []
  generalize (hp[i]? : Option Blk) = o
  rcases o with _ | ⟨cs, e, _ | _ | _ | _⟩ <;> rfl

theorem capOk_i (hp : List Blk) (i off len c : Nat) : capOk hp (.s i off len (.i c)) = coP c len hp[i]? := by
  unfold capOk coP
  simp only []
  generalize (hp[i]? : Option Blk) = o
  rcases o with _ | ⟨cs, e, _ | _ | _ | _⟩ <;> rfl
theorem newsV_e (hp : List Blk) (z i off c l z' : Nat) : newsV hp z (.e i off c l z') = some (True, 0, []) := rfl
theorem newsV_n (hp : List Blk) (z : Nat) : newsV hp z (.v (.slice none 0 0)) = some (True, 0, []) := rfl
theorem capV_k (i off len c : Nat) (h : slTy P t = true) : capV P t (.s i off len (.k c)) = some (True, .v (.int .i64 c)) := by simp [capV, h]
theorem capV_n (n c : Nat) (h : slTy P t = true) : capV P t (.v (.slice none n c)) = some (True, .v (.int .i64 c)) := by simp [capV, h]
theorem lenV_e (i off c l z : Nat) (h : slTy P t = true) : lenV P t (.e i off c l z) = some (True, .v (.int .i64 (0 : Nat))) := by simp [lenV, h]
/- append. -/
def nwP (z off m : Nat) : Option Blk → Option (Prop × Nat × List V)
  | some b => some (b.k.live = true ∧ off + m * z ≤ b.cells.length, m, seg b.cells off (m * z))
  | none => none
theorem nwP_some (z off m : Nat) (b : Blk) : nwP z off m (some b) = some (b.k.live = true ∧ off + m * z ≤ b.cells.length, m, seg b.cells off (m * z)) := rfl
theorem newsV_s (hp : List Blk) (z j off m : Nat) (c : Cap) : newsV hp z (.s j off m c) = nwP z off m hp[j]? := by
  unfold newsV nwP
  simp only []
  generalize (hp[j]? : Option Blk) = o
  rcases o with _ | _ <;> rfl
def aqP (P : Program) (n0 : Nat) (sl : List V) (hp : List Blk) (i len e z by_ : Nat) : Option Blk → Option (Prop × Nat × List V) → Option (Prop × V × St)
  | some ⟨cs, el, .own z'⟩, some (p, m, ns) => some (p ∧ z' = z ∧ (zeroL P e).isSome = true ∧ el = e ∧ cs.length = len * z ∧ n0 ≤ i ∧ norefH i hp ∧ (len + m) * by_ ≤ 140737488355328 ∧ len + m ≤ 9223372036854775807, .s i 0 (len + m) (.u 0), ⟨sl.map (forget i), hp.set i ⟨cs ++ ns, el, .own z'⟩⟩)
  | _, _ => none
theorem aqP_some (n0 : Nat) (sl : List V) (hp : List Blk) (i len e z by_ : Nat) (cs : List V) (el z' : Nat) (p : Prop) (m : Nat) (ns : List V) : aqP P n0 sl hp i len e z by_ (some ⟨cs, el, .own z'⟩) (some (p, m, ns)) =
    some (p ∧ z' = z ∧ (zeroL P e).isSome = true ∧ el = e ∧ cs.length = len * z ∧ n0 ≤ i ∧ norefH i hp ∧ (len + m) * by_ ≤ 140737488355328 ∧ len + m ≤ 9223372036854775807, .s i 0 (len + m) (.u 0), ⟨sl.map (forget i), hp.set i ⟨cs ++ ns, el, .own z'⟩⟩) := rfl
def aoP (P : Program) (n0 : Nat) (sl : List V) (hp : List Blk) (i len : Nat) (x : V) : Option (TypeId × Nat × Nat) → Option (Prop × V × St)
  | some (e, z, by_) => aqP P n0 sl hp i len e z by_ hp[i]? (newsV hp z x)
  | none => none
theorem aoP_some (n0 : Nat) (sl : List V) (hp : List Blk) (i len : Nat) (x : V) (e z by_ : Nat) : aoP P n0 sl hp i len x (some (e, z, by_)) = aqP P n0 sl hp i len e z by_ hp[i]? (newsV hp z x) := rfl
theorem appV_own (n0 : Nat) (sl : List V) (hp : List Blk) (i len : Nat) (x : V) : appV P n0 ⟨sl, hp⟩ t (.s i 0 len (.u 0)) x = aoP P n0 sl hp i len x (slo P t) := by
  unfold appV appOwn aoP
  simp only []
  rcases slo P t with _ | ⟨e, z, b⟩
  · rfl
  · simp only [aqP]
    generalize (hp[i]? : Option Blk) = o
    generalize newsV hp z x = o2
    rcases o with _ | ⟨cs, el, _ | _ | _ | _⟩ <;> rcases o2 with _ | ⟨_, _, _⟩ <;> rfl
def adP (P : Program) (sl : List V) (hp : List Blk) (i len e z by_ : Nat) : Option Blk → Option (Prop × Nat × List V) → Option (Prop × V × St)
  | some ⟨cs, el, .own z'⟩, some (p, m, ns) => some (p ∧ z' = z ∧ (zeroL P e).isSome = true ∧ el = e ∧ cs.length = len * z ∧ (len + m) * by_ ≤ 140737488355328 ∧ len + m ≤ 9223372036854775807, .s hp.length 0 (len + m) .w, ⟨sl, hp.set i ⟨[], el, .dead⟩ ++ [⟨cs ++ ns, el, .own z'⟩]⟩)
  | _, _ => none
theorem adP_some (sl : List V) (hp : List Blk) (i len e z by_ : Nat) (cs : List V) (el z' : Nat) (p : Prop) (m : Nat) (ns : List V) : adP P sl hp i len e z by_ (some ⟨cs, el, .own z'⟩) (some (p, m, ns)) =
    some (p ∧ z' = z ∧ (zeroL P e).isSome = true ∧ el = e ∧ cs.length = len * z ∧ (len + m) * by_ ≤ 140737488355328 ∧ len + m ≤ 9223372036854775807, .s hp.length 0 (len + m) .w, ⟨sl, hp.set i ⟨[], el, .dead⟩ ++ [⟨cs ++ ns, el, .own z'⟩]⟩) := rfl
def adO (P : Program) (sl : List V) (hp : List Blk) (i len : Nat) (x : V) : Option (TypeId × Nat × Nat) → Option (Prop × V × St)
  | some (e, z, by_) => adP P sl hp i len e z by_ hp[i]? (newsV hp z x)
  | none => none
theorem adO_some (sl : List V) (hp : List Blk) (i len : Nat) (x : V) (e z by_ : Nat) : adO P sl hp i len x (some (e, z, by_)) = adP P sl hp i len e z by_ hp[i]? (newsV hp z x) := rfl
theorem appV_w (n0 : Nat) (sl : List V) (hp : List Blk) (i len : Nat) (x : V) : appV P n0 ⟨sl, hp⟩ t (.s i 0 len .w) x = adO P sl hp i len x (slo P t) := by
  unfold appV appDie adO
  simp only []
  rcases slo P t with _ | ⟨e, z, b⟩
  · rfl
  · simp only [adP]
    generalize (hp[i]? : Option Blk) = o
    generalize newsV hp z x = o2
    rcases o with _ | ⟨cs, el, _ | _ | _ | _⟩ <;> rcases o2 with _ | ⟨_, _, _⟩ <;> rfl
def anP (P : Program) (sl : List V) (hp : List Blk) (e z by_ : Nat) : Option (Prop × Nat × List V) → Option (Prop × V × St)
  | some (p, m, ns) => if m = 0 then some (p, .v (.slice none 0 0), ⟨sl, hp⟩) else some (p ∧ (zeroL P e).isSome = true ∧ 0 < m ∧ m * by_ ≤ 140737488355328 ∧ m ≤ 9223372036854775807, .s hp.length 0 m (.u 0), ⟨sl, hp ++ [⟨ns, e, .own z⟩]⟩)
  | none => none
theorem anP_some (sl : List V) (hp : List Blk) (e z by_ : Nat) (p : Prop) (m : Nat) (ns : List V) : anP P sl hp e z by_ (some (p, m, ns)) = if m = 0 then some (p, .v (.slice none 0 0), ⟨sl, hp⟩) else some (p ∧ (zeroL P e).isSome = true ∧ 0 < m ∧ m * by_ ≤ 140737488355328 ∧ m ≤ 9223372036854775807, .s hp.length 0 m (.u 0), ⟨sl, hp ++ [⟨ns, e, .own z⟩]⟩) := rfl
def amP (P : Program) (sl : List V) (hp : List Blk) (x : V) : Option (TypeId × Nat × Nat) → Option (Prop × V × St)
  | some (e, z, by_) => anP P sl hp e z by_ (newsV hp z x)
  | none => none
theorem amP_some (sl : List V) (hp : List Blk) (x : V) (e z by_ : Nat) : amP P sl hp x (some (e, z, by_)) = anP P sl hp e z by_ (newsV hp z x) := rfl
theorem appV_nil (n0 : Nat) (sl : List V) (hp : List Blk) (x : V) : appV P n0 ⟨sl, hp⟩ t (.v (.slice none 0 0)) x = amP P sl hp x (slo P t) := by
  unfold appV appNew amP anP
  simp only []
  rcases slo P t with _ | ⟨e, z, b⟩
  · rfl
  · simp only []
    generalize newsV hp z x = o2
    rcases o2 with _ | ⟨_, _, _⟩ <;> rfl
def aiP (sl : List V) (hp : List Blk) (i off len c z : Nat) : Option Blk → Option (Prop × Nat × List V) → Option (Prop × V × St)
  | some ⟨cs, el, .own z'⟩, some (p, m, ns) => some (p ∧ z' = z ∧ (c + len + m) * z ≤ cs.length ∧ off + (len + m) * z ≤ cs.length, .s i off (len + m) (.i c), ⟨sl, hp.set i ⟨wr cs (off + len * z) ns, el, .own z'⟩⟩)
  | _, _ => none
theorem aiP_some (sl : List V) (hp : List Blk) (i off len c z : Nat) (cs : List V) (el z' : Nat) (p : Prop) (m : Nat) (ns : List V) : aiP sl hp i off len c z (some ⟨cs, el, .own z'⟩) (some (p, m, ns)) =
    some (p ∧ z' = z ∧ (c + len + m) * z ≤ cs.length ∧ off + (len + m) * z ≤ cs.length, .s i off (len + m) (.i c), ⟨sl, hp.set i ⟨wr cs (off + len * z) ns, el, .own z'⟩⟩) := rfl
def aiO (P : Program) (sl : List V) (hp : List Blk) (i off len c : Nat) (x : V) : Option (TypeId × Nat × Nat) → Option (Prop × V × St)
  | some (_, z, _) => aiP sl hp i off len c z hp[i]? (newsV hp z x)
  | none => none
theorem aiO_some (sl : List V) (hp : List Blk) (i off len c : Nat) (x : V) (e z by_ : Nat) : aiO P sl hp i off len c x (some (e, z, by_)) = aiP sl hp i off len c z hp[i]? (newsV hp z x) := rfl
theorem appV_in (n0 : Nat) (sl : List V) (hp : List Blk) (i off len c : Nat) (x : V) : appV P n0 ⟨sl, hp⟩ t (.s i off len (.i c)) x = aiO P sl hp i off len c x (slo P t) := by
  have e : appV P n0 ⟨sl, hp⟩ t (.s i off len (.i c)) x = appIn P ⟨sl, hp⟩ t i off len c x := by
    unfold appV
    split
    · rename_i h; cases h
    · rename_i h; cases h
    · rename_i h; cases h; rfl
    · rename_i h; exact absurd rfl (h i off len c)
  rw [e]
  unfold appIn aiO
  simp only []
  rcases slo P t with _ | ⟨e, z, b⟩
  · rfl
  · simp only [aiP]
    generalize (hp[i]? : Option Blk) = o
    generalize newsV hp z x = o2
    rcases o with _ | ⟨cs, el, _ | _ | _ | _⟩ <;> rcases o2 with _ | ⟨_, _, _⟩ <;> rfl
/-- append onto a row of known reach. -/
def akP (P : Program) (sl : List V) (hp : List Blk) (i off len c e z by_ : Nat) : Option Blk → Option (Prop × Nat × List V) → Option (Prop × V × St)
  | some b, some (p, m, ns) => if m = 0 then some (p ∧ i < hp.length ∧ len ≤ c, .s i off len (.k c), ⟨sl, hp⟩) else some (p ∧ (zeroL P e).isSome = true ∧ b.k.live = true ∧ off + len * z ≤ b.cells.length ∧ c < len + m ∧ (len + m) * by_ ≤ 140737488355328 ∧ len + m ≤ 9223372036854775807,
          .s hp.length 0 (len + m) (.u 0), ⟨sl, hp ++ [⟨seg b.cells off (len * z) ++ ns, e, .own z⟩]⟩)
  | _, _ => none
theorem akP_some (sl : List V) (hp : List Blk) (i off len c e z by_ : Nat) (b : Blk) (p : Prop) (m : Nat) (ns : List V) : akP P sl hp i off len c e z by_ (some b) (some (p, m, ns)) =
    if m = 0 then some (p ∧ i < hp.length ∧ len ≤ c, .s i off len (.k c), ⟨sl, hp⟩) else some (p ∧ (zeroL P e).isSome = true ∧ b.k.live = true ∧ off + len * z ≤ b.cells.length ∧ c < len + m ∧ (len + m) * by_ ≤ 140737488355328 ∧ len + m ≤ 9223372036854775807,
          .s hp.length 0 (len + m) (.u 0), ⟨sl, hp ++ [⟨seg b.cells off (len * z) ++ ns, e, .own z⟩]⟩) := rfl
def akO (P : Program) (sl : List V) (hp : List Blk) (i off len c : Nat) (x : V) : Option (TypeId × Nat × Nat) → Option (Prop × V × St)
  | some (e, z, by_) => akP P sl hp i off len c e z by_ hp[i]? (newsV hp z x)
  | none => none
theorem akO_some (sl : List V) (hp : List Blk) (i off len c : Nat) (x : V) (e z by_ : Nat) : akO P sl hp i off len c x (some (e, z, by_)) = akP P sl hp i off len c e z by_ hp[i]? (newsV hp z x) := rfl
theorem appV_k (n0 : Nat) (sl : List V) (hp : List Blk) (i off len c : Nat) (x : V) : appV P n0 ⟨sl, hp⟩ t (.s i off len (.k c)) x = akO P sl hp i off len c x (slo P t) := by
  have e : appV P n0 ⟨sl, hp⟩ t (.s i off len (.k c)) x = appNew P ⟨sl, hp⟩ t x (.s i off len (.k c)) := by
    unfold appV
    split
    · rename_i h; cases h
    · rename_i h; cases h
    · rename_i h; cases h
    · rfl
  rw [e]
  unfold appNew akO
  simp only []
  rcases slo P t with _ | ⟨e, z, b⟩
  · rfl
  · simp only [akP]
    generalize (hp[i]? : Option Blk) = o
    generalize newsV hp z x = o2
    rcases o with _ | _ <;> rcases o2 with _ | ⟨_, _, _⟩ <;> rfl
def ammP (sl : List V) (hp : List Blk) (n : Int) (e z by_ : Nat) : Option (List V) → Option (Prop × V × St)
  | some zs => some (0 < n ∧ n ≤ 9223372036854775807 ∧ n.toNat * by_ ≤ 140737488355328, .s hp.length 0 n.toNat (.u 0), ⟨sl, hp ++ [⟨zerosL zs n.toNat, e, .own z⟩]⟩)
  | none => none
theorem ammP_some (sl : List V) (hp : List Blk) (n : Int) (e z by_ : Nat) (zs : List V) : ammP sl hp n e z by_ (some zs) = some (0 < n ∧ n ≤ 9223372036854775807 ∧ n.toNat * by_ ≤ 140737488355328, .s hp.length 0 n.toNat (.u 0), ⟨sl, hp ++ [⟨zerosL zs n.toNat, e, .own z⟩]⟩) := rfl
def ammO (P : Program) (sl : List V) (hp : List Blk) (n : Int) : Option IntKind → Option (TypeId × Nat × Nat) → Option (Prop × V × St)
  | some _, some (e, z, by_) => ammP sl hp n e z by_ (zeroL P e)
  | _, _ => none
theorem ammO_some (sl : List V) (hp : List Blk) (n : Int) (kd : IntKind) (e z by_ : Nat) : ammO P sl hp n (some kd) (some (e, z, by_)) = ammP sl hp n e z by_ (zeroL P e) := rfl
theorem appMake_nil (t' : TypeId) (sl : List V) (hp : List Blk) (kd : IntKind) (n : Int) : appMake P ⟨sl, hp⟩ t t' (.v (.slice none 0 0)) (.v (.int kd n)) = ammO P sl hp n (mko P t') (slo P t) := by
  unfold appMake ammO ammP
  simp only []
  rcases mko P t' with _ | _ <;> rcases slo P t with _ | ⟨e, z, b⟩ <;> first | rfl | (simp only []; rcases zeroL P e with _ | _ <;> rfl)
end
theorem norefH_app (i : Nat) (H L : List Blk) : norefH i (H ++ L) = (norefH i H ∧ norefH i L) := by
  unfold norefH; apply propext
  simp only [List.mem_append]
  constructor
  · intro h; exact ⟨fun b hb => h b (.inl hb), fun b hb => h b (.inr hb)⟩
  · rintro ⟨h1, h2⟩ b (hb | hb)
    · exact h1 b hb
    · exact h2 b hb
theorem norefH_cons (i : Nat) (b : Blk) (L : List Blk) : norefH i (b :: L) = (norefs i b.cells = true ∧ norefH i L) := by
  unfold norefH; apply propext; simp
theorem norefH_nil (i : Nat) : norefH i [] = True := by unfold norefH; simp
theorem norefH_wf {H : List Blk} (h : HWf H) {i : Nat} (hi : H.length ≤ i) : norefH i H := fun b hb => lts_norefs hi _ ((lts_iff _ _).2 (h b hb))
section
variable (i j o n : Nat) (z : Value) (c : Cap) (vs : List V)
theorem forget_v : forget i (.v z) = .v z := rfl
theorem forget_any : forget i .any = .any := rfl
theorem forget_p : forget i (.p j o) = if j = i then .any else .p j o := by
  unfold forget V.noref; by_cases h : j = i <;> simp [h]
theorem forget_s : forget i (.s j o n c) = if j = i then .any else .s j o n c := by
  unfold forget V.noref; by_cases h : j = i <;> simp [h]
theorem forget_e (c' l z' : Nat) : forget i (.e j o c' l z') = if j = i then .any else .e j o c' l z' := by
  unfold forget V.noref; by_cases h : j = i <;> simp [h]
theorem forget_a (h : norefs i vs = true) : forget i (.a vs) = .a vs := by unfold forget V.noref; simp [h]
theorem forget_t (h : norefs i vs = true) : forget i (.t vs) = .t vs := by unfold forget V.noref; simp [h]
theorem forget_f (h : norefs i vs = true) : forget i (.f j vs) = .f j vs := by unfold forget V.noref; simp [h]
theorem seg_zero (o : Nat) : seg vs o 0 = [] := by unfold seg; simp
theorem seg_cons (v : V) : seg (v :: vs) 0 (n + 1) = v :: seg vs 0 n := by unfold seg; simp
theorem seg_skip (v : V) : seg (v :: vs) (o + 1) n = seg vs o n := by unfold seg; simp
theorem wr_whole (ns cs : List V) (h : cs.length = ns.length) : wr cs 0 ns = ns := by unfold wr; simp [← h]
theorem cel_zero (v : V) : cel (v :: vs) 0 = v := rfl
theorem cel_succ (v : V) : cel (v :: vs) (n + 1) = cel vs n := rfl
theorem wr_zero (v x : V) : wr (v :: vs) 0 [x] = x :: vs := by unfold wr; simp
theorem wr_succ (v : V) (ns : List V) : wr (v :: vs) (n + 1) ns = v :: wr vs n ns := by unfold wr; simp [Nat.add_right_comm]
end
theorem wr_row (k : IntKind) (n : Nat) (f g : Nat → Int) : wr (rowL k n f) 0 (rowL k n g) = rowL k n g := wr_whole _ _ (by simp [rowL])
theorem wr_rowl (k : IntKind) (n : Nat) (f g : Nat → Int) (c : List V) : wr (rowL k n f ++ c) 0 (rowL k n g) = rowL k n g ++ c := by
  unfold wr; simp [rowL]
theorem wr_rowr (k : IntKind) (n : Nat) (f : Nat → Int) (c ns : List V) : wr (rowL k n f ++ c) n ns = rowL k n f ++ wr c 0 ns := by
  unfold wr
  rw [List.take_append_of_le_length (by simp [rowL]), List.take_of_length_le (by simp [rowL]), List.drop_append, List.drop_of_length_le (by simp [rowL])]
  simp [rowL]
theorem seg_all (n : Nat) (cs : List V) (h : cs.length = n) : seg cs 0 n = cs := by subst h; unfold seg; simp
theorem pickB_true (x y : V) : pickB x y (.v (.bool true)) = some (True, x) := by
  unfold pickB pickV; cases x <;> try rfl
  rename_i z; cases z <;> try rfl
  cases y <;> try rfl
  rename_i z; cases z <;> rfl
theorem pickB_false (x y : V) : pickB x y (.v (.bool false)) = some (True, y) := by
  unfold pickB pickV; cases x <;> try rfl
  rename_i z; cases z <;> try rfl
  cases y <;> try rfl
  rename_i z; cases z <;> rfl
attribute [go_sem] seg_all wr_whole pickB_true pickB_false fillV_nil fillV_cons fpP_some place_st place_ar blP_some buildV_eq bqP_some bsP_some bslV_eq mqP_some mmP_some mkV_int skP_some sliceV_k suP_none suP_three siP_none siP_three siP_some rtP_own rtP_fix reachTo_u reachTo_i ckP_some cjP_some ciP_some clrV_s LK_clear true_or or_true sliceV_i capOk_i newsV_e newsV_n capV_k capV_n lenV_e aiP_some aiO_some appV_in akP_some akO_some appV_k ammP_some ammO_some appMake_nil suP_some sliceV_u spP_some sliceV_p bnd_none bnd_int capOk_k capOk_p coP_some capOk_u
  nwP_some newsV_s aqP_some aoP_some appV_own adP_some adO_some appV_w anP_some amP_some appV_nil norefH_app norefH_cons norefH_nil forget_v forget_any forget_p forget_e forget_s forget_a forget_t forget_f seg_zero seg_cons seg_skip cel_zero cel_succ wr_zero wr_succ wr_row wr_rowl wr_rowr
  Option.getD_some Option.getD_none Option.isSome_some Int.toNat_zero Nat.sub_zero Nat.zero_mul Nat.one_mul Int.toNat_natCast Option.map_eq_map
end Go.Sx
namespace Go.Sx
open Go.RowKit

theorem seg_sub (cs : List V) (off n o m : Nat) (h : o + m ≤ n) : seg (seg cs off n) o m = seg cs (off + o) m := by
  unfold seg; rw [List.drop_take, List.drop_drop, List.take_take]; congr 1; omega
theorem At.sub {H : List Blk} {i off : Nat} {cs : List V} {b : Blk} (h : At H i off cs b) {o m : Nat} (hm : o + m ≤ cs.length) : seg b.cells (off + o) m = seg cs o m := by
  conv => rhs; rw [← h.sg]
  rw [seg_sub _ _ _ _ _ hm]
/- Lists of things of z cells each. -/
section
variable {α : Type} (enc : α → List V) (z : Nat) (hz : ∀ x, (enc x).length = z)
include hz
theorem flat_len (l : List α) : (l.flatMap enc).length = l.length * z := by
  induction l with
  | nil => simp
  | cons a l ih => rw [List.flatMap_cons, List.length_append, hz, ih, List.length_cons, Nat.add_mul, Nat.one_mul, Nat.add_comm]
theorem flat_seg : ∀ (l : List α) (j : Nat) (hj : j < l.length), seg (l.flatMap enc) (j * z) z = enc l[j]
  | [], j, hj => by simp at hj
  | a :: l, 0, _ => by
    rw [List.flatMap_cons]
    have := seg_app (enc a) (l.flatMap enc)
    rw [hz] at this
    simpa using this
  | a :: l, j + 1, hj => by
    rw [List.flatMap_cons]
    have := flat_seg l j (by simpa using hj)
    rw [List.getElem_cons_succ, ← this]
    unfold seg
    have e : (enc a ++ l.flatMap enc).drop z = l.flatMap enc := by
      have := @List.drop_left V (enc a) (l.flatMap enc)
      rw [hz] at this; exact this
    rw [Nat.add_mul, Nat.one_mul, Nat.add_comm (j * z), ← List.drop_drop, e]
theorem At.elem {H : List Blk} {i off : Nat} {l : List α} {b : Blk} (h : At H i off (l.flatMap enc) b) {j : Nat} (hj : j < l.length) : seg b.cells (off + j * z) z = enc l[j] := by
  have hl := flat_len enc z hz l
  have hm : j * z + z ≤ l.length * z := by
    have := Nat.mul_le_mul_right z hj
    rw [Nat.succ_mul] at this; exact this
  rw [h.sub (by rw [hl]; exact hm), flat_seg enc z hz l j hj]
theorem At.fits {H : List Blk} {i off : Nat} {l : List α} {b : Blk} (h : At H i off (l.flatMap enc) b) {j : Nat} (hj : j < l.length) (h0 : 0 < z) : off + j * z + z ≤ b.cells.length :=
  seg_len (by rw [h.elem enc z hz hj, hz]) h0
end
def allN (m : Nat) (p : Nat → Bool) : Bool := (List.range m).all p
theorem allN_iff {m : Nat} {p : Nat → Bool} : allN m p = true ↔ ∀ j, j < m → p j = true := by simp [allN]
theorem in64_iff (n : Int) : In64 n = (-9223372036854775808 ≤ n ∧ n ≤ 9223372036854775807) := rfl
attribute [go_sem] in64_iff
end Go.Sx
