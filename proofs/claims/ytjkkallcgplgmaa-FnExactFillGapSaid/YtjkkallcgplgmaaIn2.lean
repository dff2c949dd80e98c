/- Contracts of functions of the translated program, by the walk. -/
import Derived.Test.YtjkkallcgplgmaaIn1b
import Derived.Test.YtjkkallcgplgmaaLD
import Derived.Test.YtjkkallcgplgmaaC3
set_option linter.unusedVariables false
set_option linter.unusedSimpArgs false
set_option maxRecDepth 8000
set_option maxHeartbeats 4000000
namespace Go.Proofs.Ytjkkallcgplgmaa
open Go Go.Sx
open Go.Proofs
/-- A page put in ahead of page i. -/
def insL (l : List (Nat → Int)) (i : Nat) (f : Nat → Int) : List (Nat → Int) := l.take i ++ f :: l.drop i
theorem insL_len {l : List (Nat → Int)} {i : Nat} (f : Nat → Int) (h : i ≤ l.length) : (insL l i f).length = l.length + 1 := by unfold insL; simp; omega
theorem flat_take12 (l : List (Nat → Int)) (i : Nat) : (l.flatMap (rowL .u16 12)).take (i * 12) = (l.take i).flatMap (rowL .u16 12) := by
  induction l generalizing i with
  | nil => simp
  | cons a l ih =>
    cases i with
    | zero => simp
    | succ i =>
      rw [List.flatMap_cons, List.take_succ_cons, List.flatMap_cons, ← ih i, List.take_append, rowL_length, List.take_of_length_le (by rw [rowL_length]; omega)]
      congr 2; omega
theorem flat_drop12 (l : List (Nat → Int)) (i : Nat) : (l.flatMap (rowL .u16 12)).drop (i * 12) = (l.drop i).flatMap (rowL .u16 12) := by
  induction l generalizing i with
  | nil => simp
  | cons a l ih =>
    cases i with
    | zero => simp
    | succ i =>
      rw [List.flatMap_cons, List.drop_succ_cons, ← ih i, List.drop_append, rowL_length, List.drop_eq_nil_of_le (by rw [rowL_length]; omega), List.nil_append]
      congr 1; omega
theorem insL_cells (l : List (Nat → Int)) (i : Nat) (f : Nat → Int) : (insL l i f).flatMap (rowL .u16 12) = (l.flatMap (rowL .u16 12)).take (i * 12) ++ rowL .u16 12 f ++ (l.flatMap (rowL .u16 12)).drop (i * 12) := by
  rw [flat_take12, flat_drop12]
  unfold insL
  rw [List.flatMap_append, List.flatMap_cons, List.append_assoc]
theorem concs_rows (σ : Nat → Go.Sx.Loc) (l : List (Nat → Int)) : ∀ v ∈ concs σ (l.flatMap (rowL .u16 12)), v.oneCell' = true := by
  intro v hv
  rw [concs_eq] at hv
  obtain ⟨x, hx, rfl⟩ := List.mem_map.1 hv
  obtain ⟨y, rfl, hy⟩ := (flat_rowL .u16 12).mem hx
  exact hy
theorem insC {H : List Blk} {bi vi i n : Nat} {l : List (Nat → Int)} {f : Nat → Int} {tv : TypeId} {c c2 : Cap} (hb : H[bi]? = some ⟨l.flatMap (rowL .u16 12), 64, .own 12⟩) (hv : H[vi]? = some ⟨rowL .u16 12 f, tv, .own 12⟩) (hne : vi ≠ bi) (hn : n = l.length) (hi : i < l.length) (hl : l.length ≤ 1000000) (hc : c = .u 0 ∨ c = .w) (hc2 : c2 = .u 0 ∨ c2 = .w) :
    Cal Try.prog 96 [.s bi 0 n c, .v (.int .i64 i), .s vi 0 1 c2] H fun u H' => u = .s H.length 0 (insL l i f).length (.u 0) ∧ H' = H.set bi deadB ++ [⟨(insL l i f).flatMap (rowL .u16 12), 64, .own 12⟩] := by
  subst hn
  rw [insL_len f (by omega)]
  refine cal_moved (by kernel_rfl) hb rfl (by rw [(flat_rowL .u16 12).flen, insL_len f (by omega)]) (fun c hc => ?_) fun σ w hw hlt => ?_
  · obtain ⟨y, rfl, hy⟩ := (flat_rowL .u16 12).mem hc
    exact ⟨hy, hy⟩
  obtain ⟨h0, cur, m, hg, hm, hcap, hsz, hmax, htake⟩ := (hw.holds bi _ hb : _ ∧ _)
  obtain ⟨v0, curV, mv, hgv, hmv, hcapv, hszv, hmaxv, htakev⟩ := (hw.holds vi _ hv : _ ∧ _)
  rw [(flat_rowL .u16 12).flen] at hm
  have hml : m = l.length := by omega
  subst hml
  rw [rowL_length] at hmv
  have hmv1 : mv = 1 := by omega
  subst hmv1
  have hsep := hw.sep vi bi _ _ hne hv hb rfl rfl
  have ev : c.val (σ bi).cap = (σ bi).cap := by rcases hc with rfl | rfl <;> rfl
  have ev2 : c2.val (σ vi).cap = (σ vi).cap := by rcases hc2 with rfl | rfl <;> rfl
  have ec : (concs σ [V.s bi 0 l.length c, .v (.int .i64 i), V.s vi 0 1 c2]).toArray = #[.slice (some ⟨(σ bi).blk, 0, none⟩) l.length (σ bi).cap, .int .i64 i, .slice (some ⟨(σ vi).blk, 0, none⟩) 1 (σ vi).cap] := by simp [concs, conc, h0, v0, ev, ev2]
  rw [ec]
  have hcl : (concs σ (l.flatMap (rowL .u16 12))).length = l.length * 12 := by rw [concs_length, (flat_rowL .u16 12).flen]
  have hvl : (concs σ (rowL .u16 12 f)).length = 12 := by rw [concs_length, rowL_length]
  have h1v : ∀ v ∈ concs σ (rowL .u16 12 f), v.oneCell' = true := by have := concs_rows σ [f]; simpa using this
  have hcells : concs σ ((insL l i f).flatMap (rowL .u16 12)) = (concs σ (l.flatMap (rowL .u16 12))).take (i * 12) ++ concs σ (rowL .u16 12 f) ++ (concs σ (l.flatMap (rowL .u16 12))).drop (i * 12) := by
    rw [insL_cells, concs_append, concs_append]
    simp only [concs_eq, List.map_take, List.map_drop]
  have hbw : (σ bi).blk < w.heap.size := (Array.getElem?_eq_some_iff.1 hg).1
  by_cases hroom : l.length + 1 ≤ (σ bi).cap
  · refine (insShift (σ bi).blk l.length (σ bi).cap i (σ vi).blk (σ vi).cap cur _ _ tv curV w hi hroom (by have := hmax; unfold maxLen at this; omega) hsep hl hg hgv hsz hcl hvl htake (by simpa using htakev) (concs_rows σ l) h1v).mono ?_
    rintro e w' ⟨rfl, cur', q, rfl, hs', ht'⟩
    refine ⟨_, _, cur', rfl, setRow_heap (w.drewN q) _ _ _ _ _ hg, hroom, hmax, hs', by rw [ht', hcells], .inl rfl, rfl, rfl, rfl, by simp [World.setRow, World.drewN], fun k hk hkn => ?_⟩
    rw [setRow_other _ _ k _ hkn]; rfl
  · refine (insGrow (σ bi).blk l.length (σ bi).cap i (σ vi).blk (σ vi).cap cur _ _ tv curV w hi hcap (by omega) hsep hl hg hgv hsz hcl hvl htake (by simpa using htakev) (concs_rows σ l) h1v).mono ?_
    rintro e w' ⟨v, rfl, ⟨_, ⟨_, hbad⟩ | ⟨g, cap, cur', rfl, hge, hgc, g1, g2, g3, g4⟩⟩, hbel⟩
    · omega
    · exact ⟨g, cap, cur', rfl, hgc, g1, g2, g3, by rw [g4, hcells], .inr hge, hbel.os, hbel.tape, hbel.output, hbel.size, fun k hk _ => hbel.block k hk⟩
end Go.Proofs.Ytjkkallcgplgmaa

