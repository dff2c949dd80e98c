/- Contracts of functions of the translated program, by the walk. -/
import Derived.Test.YtheeehjgmifclaaBl3
import Derived.Test.YtheeehjgmifclaaR1g
import Derived.Test.YtheeehjgmifclaaLD
set_option linter.unusedVariables false
set_option linter.unusedSimpArgs false
set_option maxRecDepth 8000
set_option maxHeartbeats 4000000
namespace Go.Proofs.Ytheeehjgmifclaa
open Go Go.Sx
theorem bytes_u8 (l : List Int) (h : B8 l) : ((bstr l).data.toList).map (fun b => Value.int .u8 (b.toNat : Int)) = l.map (Value.int .u8) := by
  simp only [bstr, List.map_map]
  apply List.map_congr_left
  intro x hx
  have := h x hx
  simp only [Function.comp]
  have : (UInt8.ofNat x.toNat).toNat = x.toNat := by simp; omega
  rw [this]
  congr 1; omega
/-- copyCheck of a builder that was written. -/
theorem copyUsed {H : List Blk} {bi : Nat} {s : V} (hb : H[bi]? = some ⟨[.p bi 0, s], 156, .fix⟩) :
    Cal Try.prog 145 [.p bi 0] H fun u H' => u = .t [] ∧ H' = H := by
  refine cal_below (by kernel_rfl) (r := .t []) trivial fun σ w hw hl => ?_
  obtain ⟨h0, hg⟩ := (hw.holds bi _ hb : _ ∧ _)
  have ec : (concs σ [V.p bi 0]).toArray = #[.pointer (some ⟨(σ bi).blk, 0, none⟩)] := by simp [concs, conc, h0]
  rw [ec]
  refine (cc_used _ w (by simp [World.cell?, hg, concs, conc, h0])).mono ?_
  rintro e w' ⟨rfl, rfl⟩
  exact ⟨by simp [conc, concs], RowKit.Below.refl _ _⟩
/-- .. of one that was not. -/
theorem copyFresh {H : List Blk} {bi : Nat} {s : V} (hb : H[bi]? = some ⟨[.v (.pointer none), s], 156, .fix⟩) :
    Cal Try.prog 145 [.p bi 0] H fun u H' => u = .t [] ∧ H' = H.set bi ⟨[.p bi 0, s], 156, .fix⟩ := by
  refine ⟨by kernel_rfl, fun σ w hw hl => ?_⟩
  obtain ⟨h0, hg⟩ := (hw.holds bi _ hb : _ ∧ _)
  have hbl := (List.getElem?_eq_some_iff.1 hb).1
  have ec : (concs σ [V.p bi 0]).toArray = #[.pointer (some ⟨(σ bi).blk, 0, none⟩)] := by simp [concs, conc, h0]
  rw [ec]
  have hgb : (σ bi).blk < w.heap.size := (Array.getElem?_eq_some_iff.1 hg).1
  refine (cc_fresh _ w (by simp [World.cell?, hg, concs, conc]) (by simp [World.shape?, hg, concs]) (by simp [World.frozen?, hg])).mono ?_
  rintro e w' ⟨rfl, rfl⟩
  have hoth : ∀ k, k < w.heap.size → k ≠ (σ bi).blk → (w.setCell ⟨(σ bi).blk, 0, none⟩ (.pointer (some ⟨(σ bi).blk, 0, none⟩))).heap[k]? = w.heap[k]? := fun k _ hk => RowKit.Below.heap_setCell _ _ _ _ (fun e => hk (by simpa using e))
  have hnew : (w.setCell ⟨(σ bi).blk, 0, none⟩ (.pointer (some ⟨(σ bi).blk, 0, none⟩))).heap[(σ bi).blk]? = some (.cells (concs σ [.p bi 0, s]).toArray 156 (0, 0)) := by
    simp [World.setCell, Array.getElem?_modify, hg, concs, conc, h0]
  have hsz : w.heap.size ≤ (w.setCell ⟨(σ bi).blk, 0, none⟩ (.pointer (some ⟨(σ bi).blk, 0, none⟩))).heap.size := by simp [World.setCell]
  refine ⟨.t [], H.set bi ⟨[.p bi 0, s], 156, .fix⟩, σ, ⟨rfl, rfl⟩, by simp [conc, concs], trivial, by simp, fun _ _ => rfl, ?_, ?_, ?_⟩
  · refine hw.write hb rfl hsz hoth ?_ fun c hc => ?_
    · exact ⟨h0, hnew⟩
    · have := hw.wf bi _ hb s (by simp)
      rcases List.mem_cons.1 hc with rfl | hc
      · exact ⟨hbl, rfl⟩
      · rcases List.mem_cons.1 hc with rfl | hc
        · exact this
        · cases hc
  · exact ⟨rfl, rfl, rfl, hsz, fun k hk hno => hoth k hk fun e => hno bi _ hb rfl e.symm⟩
  · intro i b hi hm
    rcases get_set_cases hi with ⟨_, hi⟩ | ⟨rfl, rfl⟩
    · exact .inr ⟨i, b, hi, hm, rfl⟩
    · exact .inr ⟨i, _, hb, rfl, rfl⟩
/-- The text of a builder that holds a byte. -/
theorem builderString {H : List Blk} {bi r n : Nat} {q : V} {c : Cap} {l : List Int} (hb : H[bi]? = some ⟨[q, .s r 0 n c], 156, .fix⟩) (hr : H[r]? = some ⟨l.flatMap u8C, 5, .own 1⟩) (hB : B8 l) (hn : n = l.length) (hl : 0 < l.length) (hc : c = .w ∨ c = .u 0) :
    Cal Try.prog 141 [.p bi 0] H fun u H' => u = .v (.string (bstr l)) ∧ H' = H.set r deadB := by
  subst hn
  refine ⟨by kernel_rfl, fun σ w hw hlt => ?_⟩
  obtain ⟨h0, hg⟩ := (hw.holds bi _ hb : _ ∧ _)
  obtain ⟨r0, cur, m, hrg, hm, hcap, hsz, hmax, htake⟩ := (hw.holds r _ hr : _ ∧ _)
  rw [flat_u8.flen] at hm
  have hml : m = l.length := by simp only [Nat.mul_one] at hm; exact hm.symm
  subst hml
  have hcv : c.val (σ r).cap = (σ r).cap := by rcases hc with rfl | rfl <;> rfl
  have ec : (concs σ [V.p bi 0]).toArray = #[.pointer (some ⟨(σ bi).blk, 0, none⟩)] := by simp [concs, conc, h0]
  rw [ec]
  have hlb : (bstr l).data.toList.length = l.length := by simp [bstr]
  have hs := str_row (σ bi).blk (σ r).blk (bstr l).data.toList (conc σ q) (σ r).cap cur w (by rw [hg]; simp [concs, conc, r0, hcv, hlb]) hrg (by intro e; rw [e] at hlb; simp at hlb; omega) (by rw [hlb, hsz]; omega) (by rw [hsz]; omega) (by rw [hlb]; exact hcap) (by
    rw [hlb]
    rw [Nat.mul_one] at htake
    rw [htake, concs_eq, u8C_map, List.map_map]
    have := bytes_u8 l hB
    unfold Lib.byteCells
    rw [this]
    rfl)
  refine hs.mono ?_
  rintro e w' ⟨rfl, rfl⟩
  have hfz : ∀ k, k ≠ (σ r).blk → (w.drew.freeze ⟨(σ r).blk, 0, none⟩ (bstr l).data.toList.length).heap[k]? = w.heap[k]? := fun k hk => by
    unfold World.freeze
    split
    · rfl
    · have hk' : (σ r).blk ≠ k := fun e => hk e.symm
      simp [Array.getElem?_modify, hk', World.drew, -World.drew_eq]
  have hsz2 : w.heap.size ≤ (w.drew.freeze ⟨(σ r).blk, 0, none⟩ (bstr l).data.toList.length).heap.size := by
    unfold World.freeze; split <;> simp [World.drew, -World.drew_eq]
  refine ⟨_, H.set r deadB, σ, ⟨rfl, rfl⟩, by simp [conc], rfl, by simp, fun _ _ => rfl, ?_, ?_, ?_⟩
  · exact hw.write hr rfl hsz2 (fun k _ hk => hfz k hk) trivial fun c hc => by cases hc
  · refine ⟨?_, ?_, ?_, hsz2, fun k hk hno => hfz k fun e => hno r _ hr rfl e.symm⟩
    all_goals (unfold World.freeze; split <;> simp [World.drew, -World.drew_eq])
  · intro i b hi hm
    rcases get_set_cases hi with ⟨_, hi⟩ | ⟨rfl, rfl⟩
    · exact .inr ⟨i, b, hi, hm, rfl⟩
    · cases hm
end Go.Proofs.Ytheeehjgmifclaa

