/- Contracts of functions of the translated program, by the walk. -/
import Derived.Test.YtpjimhkblldhaaaDoorRd2
import Derived.Test.YtpjimhkblldhaaaDoorLD
import Derived.Test.YtpjimhkblldhaaaDoorLA
set_option linter.unusedVariables false
set_option linter.unusedSimpArgs false
set_option maxRecDepth 8000
set_option maxHeartbeats 4000000
namespace Go.Proofs.YtpjimhkblldhaaaDoor
open Go Go.Sx
open Go.Proofs Go.Shelf
theorem l01Split {H : List Blk} {t : List Int} {by_ : Int} (ht : B8 t) (hl : t.length ≤ 1000000) :
    Cal Tryd.prog 37 [.v (.string (bstr t)), .v (.int .u8 by_)] H fun u H' => u = .s H.length 0 (spl by_ t).length (.u 0) ∧ H' = H ++ [⟨(spl by_ t).flatMap sC, 9, .own 1⟩] := by
  refine cal_fn 33 mixed Tryd.func37 Tryd.ntmps37 Tryd.results37 rfl rfl rfl fun hw cx hx hq => ?_
  have hn1 : norefH H.length H := norefH_wf hw (Nat.le_refl _)
  have hd1 : (H.length + 1 = H.length) = False := eq_false (by omega)
  have hbs := bstr_size t
  repeat (first | (simp only [go_sem, Int.reduceLT, Int.reduceLE, Int.reduceEq, Int.reduceToNat]) | ((with_reducible refine And.intro ?_ ?_); omega) | ((with_reducible refine And.intro ?_ ?_); first | (with_reducible rfl) | assumption | (simp only [go_sem]; done)))
  refine WK_for (fun q : Nat × List (List Int) × Nat => ⟨[.v (.string (bstr t)), .v (.int .u8 by_), .any, .any, .any, .s H.length 0 q.2.1.length (.u 0), .v (.int .i64 q.2.2), .v (.int .i64 q.1)] ++ junk 27, H ++ [⟨q.2.1.flatMap sC, 9, .own 1⟩]⟩) (fun q => q.1 ≤ t.length ∧ q.2.2 ≤ q.1 ∧ q.2.1.length ≤ q.1 ∧ q.2.1 ++ splA by_ ((t.drop q.2.2).take (q.1 - q.2.2)) (t.drop q.1) = spl by_ t) (fun q => t.length - q.1) (0, [], 0) (Weak.slots ?_) ?_ fun q hq0 => ?_
  · simp [go_sem]
  · exact ⟨Nat.zero_le _, Nat.zero_le _, Nat.zero_le _, rfl⟩
  obtain ⟨i, D, b⟩ := q
  obtain ⟨hi, hb, hD, hs⟩ := hq0
  simp only at hi hb hD hs ⊢
  have hfl : (D.flatMap sC).length = D.length := by rw [flat_sC.flen, Nat.mul_one]
  have hn2 : norefs H.length (D.flatMap sC) = true := flat_sC.norefs _ _
  rcases Int.lt_or_le (i : Int) t.length with hc | hc
  · have hj : i < t.length := by omega
    have hci : ((i : Int) < (t.length : Int)) = True := eq_true hc
    have hat := str_at t ht hj
    rw [List.drop_eq_getElem_cons hj, splA] at hs
    by_cases e : t[i] = by_
    · have e1 : (t[i] = by_) = True := eq_true e
      rw [if_pos e] at hs
      have hx1 : (bstr t).extract b i = bstr ((t.drop b).take (i - b)) := bstr_extract t b i
      repeat (first | (simp only [go_sem, Int.reduceLT, Int.reduceLE, Int.reduceEq, Int.reduceToNat, hbs, hci, hat, e1, hx1, hfl, hn1, hn2, hd1, hx]) | ((with_reducible refine And.intro ?_ ?_); omega) | ((with_reducible refine And.intro ?_ ?_); first | (with_reducible rfl) | assumption | (simp only [go_sem]; done)))
      refine EK_again (i + 1, D ++ [(t.drop b).take (i - b)], i + 1) ?_ ⟨by simp only; omega, Nat.le_refl _, by simp; omega, by simpa using hs⟩ (by simp only; omega)
      simp only [List.flatMap_append, List.flatMap_singleton, List.length_append, List.length_singleton]
      exact Weak.keepN rfl (by simp [go_sem] <;> omega) (by simp [hx]) (by simp [go_sem, flat_sC.lts, sC] <;> omega) (hw.app (by simp [go_sem, flat_sC.lts, sC] <;> omega))
    · have e1 : (t[i] = by_) = False := eq_false e
      rw [if_neg e] at hs
      have htk : (t.drop b).take (i - b) ++ [t[i]] = (t.drop b).take (i + 1 - b) := by
        rw [show i + 1 - b = (i - b) + 1 by omega, List.take_succ_eq_append_getElem (by rw [List.length_drop]; omega), List.getElem_drop]
        congr 2
        congr 1; omega
      rw [htk] at hs
      repeat (first | (simp only [go_sem, Int.reduceLT, Int.reduceLE, Int.reduceEq, Int.reduceToNat, hbs, hci, hat, e1]) | ((with_reducible refine And.intro ?_ ?_); omega) | ((with_reducible refine And.intro ?_ ?_); first | (with_reducible rfl) | assumption | (simp only [go_sem]; done)))
      refine EK_again (i + 1, D, b) (Weak.slots ?_) ⟨by simp only; omega, by simp only; omega, by simp only; omega, hs⟩ (by simp only; omega)
      simp [go_sem]
  · have : i = t.length := by omega
    subst this
    have hci : ((t.length : Int) < (t.length : Int)) = False := eq_false (by omega)
    have hx1 : (bstr t).extract b t.length = bstr ((t.drop b).take (t.length - b)) := bstr_extract t b _
    rw [List.drop_length, splA] at hs
    repeat (first | (simp only [go_sem, Int.reduceLT, Int.reduceLE, Int.reduceEq, Int.reduceToNat, hbs, hci, hx1, hfl, hn1, hn2, hd1, hx]) | ((with_reducible refine And.intro ?_ ?_); omega) | ((with_reducible refine And.intro ?_ ?_); first | (with_reducible rfl) | assumption | (simp only [go_sem]; done)))
    refine ret_one hq hw _ (.inl rfl) 0 rfl (by have hq1 := of_eq_true (flat_sC.lts H.length (D ++ [(t.drop b).take (t.length - b)])); rw [List.flatMap_append, List.flatMap_singleton] at hq1; exact hq1) (.s H.length 0 (spl by_ t).length (.u 0)) (by simp [go_sem] <;> rfl) ?_
    simp [go_sem, ← hs, sC, conc, concs, upσ, Cap.val]
/-- The first blocks are package variables. -/
structure PinR (H : List Blk) : Prop extends Pow H where
  syn : ∃ ev, H[1]? = some ⟨[.v ev], 0, .pin 2⟩ ∧ (ev = .nilIface ∨ ∃ te pe, ev = .iface te pe)
  rng : ∃ ev, H[2]? = some ⟨[.v ev], 0, .pin 3⟩ ∧ (ev = .nilIface ∨ ∃ te pe, ev = .iface te pe)
  mx : ∃ m, H[3]? = some ⟨[.v (.int .i64 m)], 0, .pin 0⟩
theorem PinR.app {H L : List Blk} (h : PinR H) : PinR (H ++ L) :=
  ⟨h.toPow.app, by obtain ⟨e, h1, h2⟩ := h.syn; exact ⟨e, get_app h1, h2⟩, by obtain ⟨e, h1, h2⟩ := h.rng; exact ⟨e, get_app h1, h2⟩, by obtain ⟨m, h1⟩ := h.mx; exact ⟨m, get_app h1⟩⟩
theorem u8L_inj : ∀ {a b : List Int}, B8 a → B8 b → u8L a = u8L b → a = b := fun {a b} ha hb h => bstr_inj ha hb (by unfold bstr; exact congrArg (fun l : List UInt8 => (⟨l.toArray⟩ : ByteArray)) h)
theorem bstr_toL (t : List Int) : (bstr t).toList = u8L t := by rw [ByteArray.toList_eq, bstr_u8']
theorem itoa_beq {t : List Int} (h8 : B8 t) (v : Int) : (Lib.itoa v == (bstr t).toList) = decide (decI v = t) := by
  rw [bstr_toL, ← u8L_decI, Bool.eq_iff_iff]
  simp only [beq_iff_eq, decide_eq_true_eq]
  exact ⟨fun h => u8L_inj (decI_8 v) h8 h, fun h => by rw [h]⟩
theorem bw_below {w w' : World} {t : TypeId} (h : w' = w ∨ ∃ s, w' = Lib.bytesWorld w t s) : Go.RowKit.Below w.heap.size w w' := by
  rcases h with rfl | ⟨s, rfl⟩
  · exact Go.RowKit.Below.refl _ _
  · refine ⟨?_, ?_, ?_, ?_, fun k hk => Lib.bytesWorld_at_old w _ s k hk⟩
    · simp [Lib.bytesWorld, World.freeze, World.alloc, World.drew, -World.alloc_eq, -World.drew_eq]
    · simp [Lib.bytesWorld, World.freeze, World.alloc, World.drew, -World.alloc_eq, -World.drew_eq]
    · simp [Lib.bytesWorld, World.freeze, World.alloc, World.drew, -World.alloc_eq, -World.drew_eq]
    · rw [Lib.bytesWorld_size]; omega
theorem readDec {H : List Blk} (hp : PinR H) {t : List Int} (h8 : B8 t) (hl : t.length ≤ 1000000) {lo hi : Int} (h0 : -1000 ≤ lo) (h1 : hi ≤ 1000) :
    Cal Tryd.prog 40 [.v (.string (bstr t)), .v (.int .i64 lo), .v (.int .i64 hi)] H fun u H' => u = .t [.v (.int .i64 (rdV t)), .v (.bool (rdOk t lo hi))] ∧ H' = H := by
  refine cal_below (by kernel_rfl) (r := .t [.v (.int .i64 (rdV t)), .v (.bool (rdOk t lo hi))]) (by simp [go_sem]) fun σ w hw hlt => ?_
  have hs : (bstr t).data.toList = u8L t := bstr_u8' t
  have hz : (bstr t).size = t.length := bstr_size t
  cases e : Lib.parseIntB 64 (u8L t) with
  | ok v =>
    have eV : rdV t = v := by unfold rdV; rw [e]
    have eO : rdOk t lo hi = (decide (lo ≤ v) && decide (v ≤ hi) && decide (decI v = t)) := by unfold rdOk; rw [e]
    have c : Calls Tryd.prog 57 #[.string (bstr t), .int .i64 10, .int .i64 64] w fun e w' => e = .returned (.tuple #[.int .i64 v, .nilIface]) ∧ Go.RowKit.Below w.heap.size w w' :=
      (Any.strconv_ParseInt_10_at64_ok laysC174 (bstr t) (by omega) v (by rw [hs, e]) w).mono fun e' w' ⟨h3, h4⟩ => ⟨h3, bw_below h4⟩
    rw [eV, eO]
    cases hr : (decide (lo ≤ v) && decide (v ≤ hi))
    · exact (readOut (bstr t) lo hi v w hr c).mono fun e' w' ⟨h3, h4⟩ => ⟨h3, h4⟩
    · have hr2 := hr
      simp only [Bool.and_eq_true, decide_eq_true_eq] at hr2
      refine (readIn (bstr t) lo hi v w (by omega) (by omega) hr (pow_is hw hp.toPow) c).mono fun e' w' ⟨h3, h4⟩ => ⟨?_, h4⟩
      rw [h3, itoa_beq h8]
      rfl
  | range =>
    have eV : rdV t = Lib.intSat 64 (u8L t) := by unfold rdV; rw [e]
    have eO : rdOk t lo hi = false := by unfold rdOk; rw [e]
    obtain ⟨ev, hv, hev⟩ := hp.rng
    rw [eV, eO]
    exact (readBad (bstr t) lo hi _ _ w ((Any.strconv_ParseInt_10_at64_range laysC174 (bstr t) (by omega) (by rw [hs, e]) ev w (hw.pin_cell hv rfl) hev).mono fun e' w' ⟨N, h3, _, _, h4⟩ => ⟨_, h3, h4⟩)).mono fun e' w' ⟨h3, h4⟩ => ⟨by rw [h3, hs]; rfl, h4⟩
  | _ =>
    have eV : rdV t = 0 := by unfold rdV; rw [e]
    have eO : rdOk t lo hi = false := by unfold rdOk; rw [e]
    obtain ⟨ev, hv, hev⟩ := hp.syn
    rw [eV, eO]
    exact (readBad (bstr t) lo hi 0 _ w ((Any.strconv_ParseInt_10_at64_syntax laysC174 (bstr t) (by omega) (by rw [hs, e]) ev w (hw.pin_cell hv rfl) hev).mono fun e' w' ⟨N, h3, _, _, h4⟩ => ⟨_, h3, h4⟩)).mono fun e' w' ⟨h3, h4⟩ => ⟨h3, h4⟩
theorem hi146 : (Tryd.prog.info? (lays146_ren.t 9)).map (fun i => (i.zero, i.size, i.bytes)) = some (some (.string ByteArray.empty), 1, 16) := by kernel_rfl
theorem splitC {H : List Blk} (hp : PinR H) {t : List Int} (h8 : B8 t) (hl : t.length ≤ 1000000) :
    Cal Tryd.prog 56 [.v (.string (bstr t)), .v (.string (bstr [32]))] H fun u H' => u = .s H.length 0 (spl 32 t).length (.u 0) ∧ H' = H ++ [⟨(spl 32 t).flatMap sC, 9, .own 1⟩] := by
  refine cal_ownsRow (by kernel_rfl) (n := (spl 32 t).length) (by rw [flat_sC.flen]) (List.length_pos_iff.2 (spl_ne 32 t)) (fun c hc => ?_) fun σ w hw hlt => ?_
  · rw [sC_map] at hc
    obtain ⟨x, _, rfl⟩ := List.mem_map.1 hc
    exact ⟨rfl, rfl⟩
  · obtain ⟨m, hm⟩ := hp.mx
    have hb := splitB_spl (c := 32) (by omega) h8
    have hcount : Lib.countB (bstr t) (bstr [32]) + 1 = (spl 32 t).length := by
      have := Lib.splitB_all (bstr [32]) (by decide) 0 _ (bstr t) rfl
      rw [hb, List.length_map] at this
      omega
    have hlen := spl_len_le 32 t []
    refine (Any.strings_Split lays146 hi146 (bstr t) (bstr [32]) m w (by rw [bstr_size]; omega) (hw.pin_cell hm rfl) (by decide)).mono ?_
    rintro e w' ⟨rfl, rfl⟩
    rw [hcount, hb]
    have ec : concs σ ((spl 32 t).flatMap sC) = ((spl 32 t).map bstr).map Value.string := by
      rw [sC_map, concs_eq, List.map_map, List.map_map]; rfl
    refine ⟨_, rfl, ⟨by rw [ec]; simp, .inr ⟨w.heap.size, (spl 32 t).length, (((spl 32 t).map bstr).map Value.string).toArray, rfl, Nat.le_refl _, ?_, Nat.le_refl _, ?_, by simp, ?_⟩⟩, ?_⟩
    · simp [World.alloc, -World.alloc_eq]; rfl
    · unfold spl at *; unfold maxLen; omega
    · rw [ec, List.take_of_length_le]
      simp
    · refine ⟨by simp [World.alloc, -World.alloc_eq], by simp [World.alloc, -World.alloc_eq], by simp [World.alloc, -World.alloc_eq], by simp [World.alloc, -World.alloc_eq], fun k hk => ?_⟩
      unfold World.alloc
      simp only
      rw [Array.getElem?_push, if_neg (Nat.ne_of_lt hk)]
end Go.Proofs.YtpjimhkblldhaaaDoor

