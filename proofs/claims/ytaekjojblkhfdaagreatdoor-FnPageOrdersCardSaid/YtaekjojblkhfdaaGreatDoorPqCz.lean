/- Contracts of functions of the translated program, by the walk. -/
import Derived.Test.YtaekjojblkhfdaaGreatDoorPqG
import Derived.Test.YtaekjojblkhfdaaGreatDoorPo4
set_option linter.unusedVariables false
set_option linter.unusedSimpArgs false
set_option maxRecDepth 8000
set_option maxHeartbeats 16000000
namespace Go.Proofs.YtaekjojblkhfdaaGreatDoor
open Go Go.Sx
open Go.RowKit
theorem poF {cx : Cx} {H : List Blk} {x1 x2 : V} {l1 l2 : List Int} {b : List (Nat → Int)} {g8 g9 g10 g11 g13 g14 g15 g19 g20 g21 g23 g24 g25 g26 g29 g30 g31 g68 g69 g70 g71 g72 g73 g74 g75 g76 g77 g78 g79 g80 g81 g82 g83 g84 g85 g86 g87 g88 g89 g90 g91 g92 g93 g94 g95 g96 g97 g98 g99 g100 g101 g102 g103 g104 g105 g106 g107 g108 g109 g110 g111 g112 g113 g114 g115 g116 g117 g118 g119 g120 g121 g122 g123 g124 g125 g126 g127 g128 g129 g130 g131 g132 g133 g134 g135 g136 g137 g138 g139 g140 g141 g142 g143 g144 g145 g146 g147 g148 g149 g150 g151 g152 g153 g154 g155 g156 g157 g158 g159 g160 g161 g162 g163 g164 g165 g166 g167 g168 g169 g170 g171 g172 g173 g174 g175 g176 g177 g178 g179 g180 g181 g182 g183 g184 g185 g186 g187 g188 g189 g190 g191 g192 g193 g194 g195 g196 g197 g198 g199 g200 g201 g202 g203 g204 g205 g206 g207 g208 g209 g210 g211 g212 g213 g214 g215 g216 g217 g218 g219 g220 g221 g222 g223 g224 g225 g226 g227 g228 g229 g230 g231 g232 g233 g234 g235 g236 g237 g238 g239 g240 g241 g242 g243 g244 g245 g246 g247 g248 g249 : V} {r2 r3 r5 : Blk} {o M D P : List Int} {S lo kn pl few : Int} (hw : HWf H) (hx : cx.n0 = H.length) (hq : ∀ e s, fin Tryz.prog H.length [ResultVar.tmp 4] (fun v H' => v = .v (.bool true) ∧ H' = H) e s → cx.Q e s) (h1 : Rd H x1 u8C l1) (h2 : Rd H x2 u8C l2) (h81 : B8 l1) (h82 : B8 l2) (hl1 : l1.length ≤ 4096) (hl2 : l2.length ≤ 4096) (hp : PinR H) (hb6 : b.length ≤ 6) (h12 : ∀ f ∈ b, F12 f) (ho : OrdP o b.length) (hQ : OQ b o M S lo kn pl) (hB : OB b D S lo kn few) (hn : 1 ≤ b.length) (hP : opN o b.length = P) :
    WK Tryz.prog cx [] (restC 21 (Tryz.f3.body.getD .skip)) ⟨[x1, x2, .any, .any, .v (.bool false), .s H.length 0 b.length (.u 0), .v (.int .i64 (b.length)), .s (H.length + 1) 0 b.length (.u 0), g8, g9, g10, g11, .v (.int .i64 (S)), g13, g14, g15, .v (.int .i64 0), .s (H.length + 4) 0 b.length (.u 0), .v (.int .i64 (few)), g19, g20, g21, .v (.int .i64 (lo)), g23, g24, g25, g26, .s (H.length + 6) 0 b.length (.u 0), .v (.int .i64 (kn)), g29, g30, g31, .s (H.length + 7) 0 b.length (.k b.length), .v (.int .i64 0), .s (H.length + 8) 0 b.length (.k b.length), .v (.int .i64 0), .s (H.length + 9) 0 b.length (.u 0), .v (.int .i64 0), .s (H.length + 10) 0 b.length (.u 0), .v (.int .i64 0), .s (H.length + 11) 0 b.length (.u 0), .v (.int .i64 0), .any, .any, .any, .any, .any, .any, .any, .any, .any, .any, .any, .any, .any, .any, .any, .any, .any, .any, .any, .any, .any, .any, .any, .any, .any, .any, g68, g69, g70, g71, g72, g73, g74, g75, g76, g77, g78, g79, g80, g81, g82, g83, g84, g85, g86, g87, g88, g89, g90, g91, g92, g93, g94, g95, g96, g97, g98, g99, g100, g101, g102, g103, g104, g105, g106, g107, g108, g109, g110, g111, g112, g113, g114, g115, g116, g117, g118, g119, g120, g121, g122, g123, g124, g125, g126, g127, g128, g129, g130, g131, g132, g133, g134, g135, g136, g137, g138, g139, g140, g141, g142, g143, g144, g145, g146, g147, g148, g149, g150, g151, g152, g153, g154, g155, g156, g157, g158, g159, g160, g161, g162, g163, g164, g165, g166, g167, g168, g169, g170, g171, g172, g173, g174, g175, g176, g177, g178, g179, g180, g181, g182, g183, g184, g185, g186, g187, g188, g189, g190, g191, g192, g193, g194, g195, g196, g197, g198, g199, g200, g201, g202, g203, g204, g205, g206, g207, g208, g209, g210, g211, g212, g213, g214, g215, g216, g217, g218, g219, g220, g221, g222, g223, g224, g225, g226, g227, g228, g229, g230, g231, g232, g233, g234, g235, g236, g237, g238, g239, g240, g241, g242, g243, g244, g245, g246, g247, g248, g249] ++ junk 256, H ++ [⟨b.flatMap (rowL .u16 12), 50, .own 12⟩, ⟨o.flatMap i64C, 2, .own 1⟩, r2, r3, ⟨D.flatMap i64C, 2, .own 1⟩, r5, ⟨M.flatMap i64C, 2, .own 1⟩, ⟨P.flatMap i64C, 2, .fix⟩, ⟨P.flatMap i64C, 2, .fix⟩, ⟨(inO b o).flatMap (rowL .u16 12), 50, .own 12⟩, ⟨(inO b o).flatMap (rowL .u16 12), 50, .own 12⟩, ⟨b.flatMap (rowL .u16 12), 50, .own 12⟩]⟩ := by
  /-MAXS-/
  have hsol1 := h1.solid
  have hsol2 := h2.solid
  have hn1 : norefH H.length H := norefH_wf hw (Nat.le_refl _)
  have hb0 : Tryz.f3.body = some _ := rfl
  obtain ⟨T, hT⟩ : ∃ T, T = restC 22 (Tryz.f3.body.getD .skip) := ⟨_, rfl⟩
  rw [hb0] at hT ⊢
  clear hb0
  simp only [Option.getD_some, restC]
  refine WK_cut 1 (T := T) (by rw [hT]; rfl) ?_
  simp only [graftC]
  have hPl : P.length ≤ 6 := by rw [← hP, opN_len, ho.1]; exact hb6
  have hIl : (inO b o).length ≤ 6 := by rw [inO_len, ho.1]; exact hb6
  repeat (first | (simp (maxSteps := 3000000) only [go_sem, Int.reduceLT, Int.reduceLE, Int.reduceEq, Int.reduceToNat]) | ((with_reducible refine isSK ?_); first | refine call_ret (sameNumbers (l := P) (Rd.own 7 rfl (by rfl) (by rw [← hP, opN_len, ho.1])) (Rd.own 8 rfl (by rfl) (by rw [← hP, opN_len, ho.1])) (by omega)) ?_ ?_ | refine call_ret (sameBook (l := inO b o) (Rd.own 9 rfl (by rfl) (by rw [inO_len, ho.1])) (Rd.own 10 rfl (by rfl) (by rw [inO_len, ho.1])) (by omega)) ?_ ?_ | refine call_ret (sameBook (l := b) (Rd.own 11 rfl (by rfl) (by rfl )) (Rd.own0 rfl (by rfl) (by rfl )) (by omega)) ?_ ?_) )
  rw [hT]
  exact poG hw hx hq h1 h2 h81 h82 hl1 hl2 hp hb6 h12 ho hQ hB hn
end Go.Proofs.YtaekjojblkhfdaaGreatDoor
namespace Go.Proofs.YtaekjojblkhfdaaGreatDoor
open Go Go.Sx
open Go.RowKit
theorem poE {cx : Cx} {H : List Blk} {x1 x2 : V} {l1 l2 : List Int} {b : List (Nat → Int)} {g8 g9 g10 g11 g13 g14 g15 g19 g20 g21 g23 g24 g25 g26 g29 g30 g31 g68 g69 g70 g71 g72 g73 g74 g75 g76 g77 g78 g79 g80 g81 g82 g83 g84 g85 g86 g87 g88 g89 g90 g91 g92 g93 g94 g95 g96 g97 g98 g99 g100 g101 g102 g103 g104 g105 g106 g107 g108 g109 g110 g111 g112 g113 g114 g115 g116 g117 g118 g119 g120 g121 g122 g123 g124 g125 g126 g127 g128 g129 g130 g131 g132 g133 g134 g135 g136 g137 g138 g139 g140 g141 g142 g143 g144 g145 g146 g147 g148 g149 g150 g151 g152 g153 g154 g155 g156 g157 g158 g159 g160 g161 g162 g163 g164 g165 g166 g167 g168 g169 g170 g171 g172 g173 g174 g175 g176 g177 g178 g179 g180 g181 g182 g183 g184 g185 g186 g187 g188 g189 g190 g191 g192 g193 g194 g195 g196 g197 g198 g199 g200 g201 g202 g203 g204 g205 g206 g207 g208 g209 g210 g211 g212 g213 g214 g215 g216 g217 g218 g219 g220 g221 : V} {r2 r3 r5 : Blk} {o M D P : List Int} {S lo kn pl few : Int} (hw : HWf H) (hx : cx.n0 = H.length) (hq : ∀ e s, fin Tryz.prog H.length [ResultVar.tmp 4] (fun v H' => v = .v (.bool true) ∧ H' = H) e s → cx.Q e s) (h1 : Rd H x1 u8C l1) (h2 : Rd H x2 u8C l2) (h81 : B8 l1) (h82 : B8 l2) (hl1 : l1.length ≤ 4096) (hl2 : l2.length ≤ 4096) (hp : PinR H) (hb6 : b.length ≤ 6) (h12 : ∀ f ∈ b, F12 f) (ho : OrdP o b.length) (hQ : OQ b o M S lo kn pl) (hB : OB b D S lo kn few) (hn : 1 ≤ b.length) (hP : opN o b.length = P) :
    WK Tryz.prog cx [] (restC 16 (Tryz.f3.body.getD .skip)) ⟨[x1, x2, .any, .any, .v (.bool false), .s H.length 0 b.length (.u 0), .v (.int .i64 (b.length)), .s (H.length + 1) 0 b.length (.u 0), g8, g9, g10, g11, .v (.int .i64 (S)), g13, g14, g15, .v (.int .i64 0), .s (H.length + 4) 0 b.length (.u 0), .v (.int .i64 (few)), g19, g20, g21, .v (.int .i64 (lo)), g23, g24, g25, g26, .s (H.length + 6) 0 b.length (.u 0), .v (.int .i64 (kn)), g29, g30, g31, .any, .any, .any, .any, .any, .any, .any, .any, .any, .any, .any, .any, .any, .any, .any, .any, .any, .any, .any, .any, .any, .any, .any, .any, .any, .any, .any, .any, .any, .any, .any, .any, .any, .any, .any, .any, g68, g69, g70, g71, g72, g73, g74, g75, g76, g77, g78, g79, g80, g81, g82, g83, g84, g85, g86, g87, g88, g89, g90, g91, g92, g93, g94, g95, g96, g97, g98, g99, g100, g101, g102, g103, g104, g105, g106, g107, g108, g109, g110, g111, g112, g113, g114, g115, g116, g117, g118, g119, g120, g121, g122, g123, g124, g125, g126, g127, g128, g129, g130, g131, g132, g133, g134, g135, g136, g137, g138, g139, g140, g141, g142, g143, g144, g145, g146, g147, g148, g149, g150, g151, g152, g153, g154, g155, g156, g157, g158, g159, g160, g161, g162, g163, g164, g165, g166, g167, g168, g169, g170, g171, g172, g173, g174, g175, g176, g177, g178, g179, g180, g181, g182, g183, g184, g185, g186, g187, g188, g189, g190, g191, g192, g193, g194, g195, g196, g197, g198, g199, g200, g201, g202, g203, g204, g205, g206, g207, g208, g209, g210, g211, g212, g213, g214, g215, g216, g217, g218, g219, g220, g221] ++ junk 284, H ++ [⟨b.flatMap (rowL .u16 12), 50, .own 12⟩, ⟨o.flatMap i64C, 2, .own 1⟩, r2, r3, ⟨D.flatMap i64C, 2, .own 1⟩, r5, ⟨M.flatMap i64C, 2, .own 1⟩]⟩ := by
  /-MAXS-/
  have hsol1 := h1.solid
  have hsol2 := h2.solid
  have hn1 : norefH H.length H := norefH_wf hw (Nat.le_refl _)
  have hb0 : Tryz.f3.body = some _ := rfl
  obtain ⟨T, hT⟩ : ∃ T, T = restC 21 (Tryz.f3.body.getD .skip) := ⟨_, rfl⟩
  rw [hb0] at hT ⊢
  clear hb0
  simp only [Option.getD_some, restC]
  refine WK_cut 5 (T := T) (by rw [hT]; rfl) ?_
  simp only [graftC]
  repeat (first | (simp (maxSteps := 3000000) only [go_sem, Int.reduceLT, Int.reduceLE, Int.reduceEq, Int.reduceToNat]) | ((with_reducible refine isSK ?_); first | refine call_ret (opI (o := o) (Rd.own 1 rfl (by rfl) ho.1.symm) ho hb6 hP) ?_ ?_ | refine call_ret (opS (o := o) (Rd.own 1 rfl (by rfl) ho.1.symm) ⟨_, by rw [ho.1], (by exact (Go.Sx.get_at _ _ 1).trans rfl)⟩ ho hb6 hP) ?_ ?_ | refine call_ret (roI (b := b) (o := o) (Rd.own0 rfl (by rfl) (by rfl )) (Rd.own 1 rfl (by rfl) ho.1.symm) h12 hb6 ho) ?_ ?_ | refine call_ret (roS (b := b) (o := o) (Rd.own0 rfl (by rfl) (by rfl )) (Rd.own 1 rfl (by rfl) ho.1.symm) ⟨_, by rw [ho.1], (by exact (Go.Sx.get_at _ _ 1).trans rfl)⟩ h12 hb6 ho) ?_ ?_ | refine call_ret (hoI (b := b) (o := o) (P := P) (Rd.own 10 rfl (by rfl) (by rw [inO_len, ho.1])) (Rd.own 8 rfl (by rfl) (by rw [← hP, opN_len, ho.1])) h12 hb6 ho hP) ?_ ?_) )
  rw [hT]
  exact poF hw hx hq h1 h2 h81 h82 hl1 hl2 hp hb6 h12 ho hQ hB hn hP
end Go.Proofs.YtaekjojblkhfdaaGreatDoor
namespace Go.Proofs.YtaekjojblkhfdaaGreatDoor
open Go Go.Sx
open Go.RowKit
theorem poD {cx : Cx} {H : List Blk} {x1 x2 : V} {l1 l2 : List Int} {b : List (Nat → Int)} {g68 g69 g70 g71 g72 g73 g74 g75 g76 g77 g78 g79 g80 g81 g82 g83 g84 g85 g86 g87 g88 g89 g90 g91 g92 g93 g94 g95 g96 g97 g98 g99 g100 g101 g102 g103 g104 g105 g106 g107 g108 g109 g110 g111 g112 g113 g114 g115 g116 g117 g118 g119 g120 g121 g122 g123 g124 g125 g126 g127 g128 g129 g130 g131 g132 g133 g134 g135 g136 g137 : V} {o M D : List Int} {S lo kn pl few : Int} (hw : HWf H) (hx : cx.n0 = H.length) (hq : ∀ e s, fin Tryz.prog H.length [ResultVar.tmp 4] (fun v H' => v = .v (.bool true) ∧ H' = H) e s → cx.Q e s) (h1 : Rd H x1 u8C l1) (h2 : Rd H x2 u8C l2) (h81 : B8 l1) (h82 : B8 l2) (hl1 : l1.length ≤ 4096) (hl2 : l2.length ≤ 4096) (hp : PinR H) (hb6 : b.length ≤ 6) (h12 : ∀ f ∈ b, F12 f) (ho : OrdP o b.length) (hQ : OQ b o M S lo kn pl) (hB : OB b D S lo kn few) (hn : 1 ≤ b.length) :
    WK Tryz.prog cx [] (restC 15 (Tryz.f3.body.getD .skip)) ⟨[x1, x2, .any, .any, .v (.bool false), .s H.length 0 b.length (.u 0), .v (.int .i64 (b.length)), .s (H.length + 1) 0 b.length (.u 0), .s (H.length + 2) 0 b.length (.u 0), .v (.int .i64 0), .v (.bool true), .v (.int .i64 0), .v (.int .i64 (S)), .v (.int .i64 0), .s (H.length + 3) 0 b.length (.u 0), .v (.int .i64 (few)), .v (.int .i64 0), .s (H.length + 4) 0 b.length (.u 0), .v (.int .i64 (few)), .v (.int .i64 0), .v (.int .i64 (lo)), .v (.int .i64 0), .v (.int .i64 (lo)), .v (.int .i64 0), .s (H.length + 5) 0 b.length (.u 0), .v (.int .i64 (kn)), .v (.int .i64 0), .s (H.length + 6) 0 b.length (.u 0), .v (.int .i64 (kn)), .v (.int .i64 0), .v (.int .i64 (pl)), .v (.int .i64 0), .any, .any, .any, .any, .any, .any, .any, .any, .any, .any, .any, .any, .any, .any, .any, .any, .any, .any, .any, .any, .any, .any, .any, .any, .any, .any, .any, .any, .any, .any, .any, .any, .any, .any, .any, .any, g68, g69, g70, g71, g72, g73, g74, g75, g76, g77, g78, g79, g80, g81, g82, g83, g84, g85, g86, g87, g88, g89, g90, g91, g92, g93, g94, g95, g96, g97, g98, g99, g100, g101, g102, g103, g104, g105, g106, g107, g108, g109, g110, g111, g112, g113, g114, g115, g116, g117, g118, g119, g120, g121, g122, g123, g124, g125, g126, g127, g128, g129, g130, g131, g132, g133, g134, g135, g136, g137] ++ junk 368, H ++ [⟨b.flatMap (rowL .u16 12), 50, .own 12⟩, ⟨o.flatMap i64C, 2, .own 1⟩, ⟨o.flatMap i64C, 2, .own 1⟩, ⟨D.flatMap i64C, 2, .own 1⟩, ⟨D.flatMap i64C, 2, .own 1⟩, ⟨M.flatMap i64C, 2, .own 1⟩, ⟨M.flatMap i64C, 2, .own 1⟩]⟩ := by
  /-MAXS-/
  have hsol1 := h1.solid
  have hsol2 := h2.solid
  have hn1 : norefH H.length H := norefH_wf hw (Nat.le_refl _)
  have hb0 : Tryz.f3.body = some _ := rfl
  obtain ⟨T, hT⟩ : ∃ T, T = restC 16 (Tryz.f3.body.getD .skip) := ⟨_, rfl⟩
  rw [hb0] at hT ⊢
  clear hb0
  simp only [Option.getD_some, restC]
  refine WK_cut 1 (T := T) (by rw [hT]; rfl) ?_
  simp only [graftC]
  simp only [List.append_eq, List.cons_append, List.nil_append]
  have d1 : (pl < kn) = False := eq_false (by have := hQ.kp; omega)
  have d2 : (S < lo) = False := eq_false (by have := hQ.ls; omega)
  repeat (first | (simp (maxSteps := 3000000) only [go_sem, Int.reduceLT, Int.reduceLE, Int.reduceEq, Int.reduceToNat, d1, d2]) | ((with_reducible refine isSK ?_); first | refine call_ret (sameNumbers (l := o) (Rd.own 2 rfl (by rfl) ho.1.symm) (Rd.own 1 rfl (by rfl) ho.1.symm) (by have := ho.1; omega)) ?_ ?_ | refine call_ret (sameNumbers (l := D) (Rd.own 3 rfl (by rfl) hB.or_.1.symm) (Rd.own 4 rfl (by rfl) hB.or_.1.symm) (by have := hB.or_.1; omega)) ?_ ?_ | refine call_ret (sameNumbers (l := M) (Rd.own 5 rfl (by rfl) hQ.mo.1.symm) (Rd.own 6 rfl (by rfl) hQ.mo.1.symm) (by have := hQ.mo.1; omega)) ?_ ?_) )
  rw [hT]
  exact poE hw hx hq h1 h2 h81 h82 hl1 hl2 hp hb6 h12 ho hQ hB hn rfl
end Go.Proofs.YtaekjojblkhfdaaGreatDoor
namespace Go.Proofs.YtaekjojblkhfdaaGreatDoor
open Go Go.Sx
open Go.RowKit
theorem poC {cx : Cx} {H : List Blk} {x1 x2 : V} {l1 l2 : List Int} {b : List (Nat → Int)} {g68 g69 g70 g71 g72 g73 g74 g75 g76 g77 g78 g79 g80 g81 g82 g83 g84 g85 g86 g87 g88 g89 g90 g91 g92 g93 g94 g95 g96 g97 g98 g99 g100 g101 g102 g103 g104 g105 g106 g107 g108 g109 g110 g111 g112 g113 g114 g115 g116 g117 g118 g119 g120 : V} {o M D : List Int} {S lo kn pl few : Int} (hw : HWf H) (hx : cx.n0 = H.length) (hq : ∀ e s, fin Tryz.prog H.length [ResultVar.tmp 4] (fun v H' => v = .v (.bool true) ∧ H' = H) e s → cx.Q e s) (h1 : Rd H x1 u8C l1) (h2 : Rd H x2 u8C l2) (h81 : B8 l1) (h82 : B8 l2) (hl1 : l1.length ≤ 4096) (hl2 : l2.length ≤ 4096) (hp : PinR H) (hb6 : b.length ≤ 6) (h12 : ∀ f ∈ b, F12 f) (ho : OrdP o b.length) (hQ : OQ b o M S lo kn pl) (hB : OB b D S lo kn few) (hn : 1 ≤ b.length) :
    WK Tryz.prog cx [] (restC 12 (Tryz.f3.body.getD .skip)) ⟨[x1, x2, .any, .any, .v (.bool false), .s H.length 0 b.length (.u 0), .v (.int .i64 (b.length)), .s (H.length + 1) 0 b.length (.u 0), .s (H.length + 2) 0 b.length (.u 0), .v (.int .i64 0), .v (.bool true), .v (.int .i64 0), .v (.int .i64 (S)), .v (.int .i64 0), .s (H.length + 3) 0 b.length (.u 0), .v (.int .i64 (few)), .v (.int .i64 0), .s (H.length + 4) 0 b.length (.u 0), .v (.int .i64 (few)), .v (.int .i64 0), .v (.int .i64 (lo)), .v (.int .i64 0), .v (.int .i64 (lo)), .v (.int .i64 0), .any, .any, .any, .any, .any, .any, .any, .any, .any, .any, .any, .any, .any, .any, .any, .any, .any, .any, .any, .any, .any, .any, .any, .any, .any, .any, .any, .any, .any, .any, .any, .any, .any, .any, .any, .any, .any, .any, .any, .any, .any, .any, .any, .any, g68, g69, g70, g71, g72, g73, g74, g75, g76, g77, g78, g79, g80, g81, g82, g83, g84, g85, g86, g87, g88, g89, g90, g91, g92, g93, g94, g95, g96, g97, g98, g99, g100, g101, g102, g103, g104, g105, g106, g107, g108, g109, g110, g111, g112, g113, g114, g115, g116, g117, g118, g119, g120] ++ junk 385, H ++ [⟨b.flatMap (rowL .u16 12), 50, .own 12⟩, ⟨o.flatMap i64C, 2, .own 1⟩, ⟨o.flatMap i64C, 2, .own 1⟩, ⟨D.flatMap i64C, 2, .own 1⟩, ⟨D.flatMap i64C, 2, .own 1⟩]⟩ := by
  /-MAXS-/
  have hsol1 := h1.solid
  have hsol2 := h2.solid
  have hn1 : norefH H.length H := norefH_wf hw (Nat.le_refl _)
  have hb0 : Tryz.f3.body = some _ := rfl
  obtain ⟨T, hT⟩ : ∃ T, T = restC 15 (Tryz.f3.body.getD .skip) := ⟨_, rfl⟩
  rw [hb0] at hT ⊢
  clear hb0
  simp only [Option.getD_some, restC]
  refine WK_cut 3 (T := T) (by rw [hT]; rfl) ?_
  simp only [graftC]
  repeat (first | (simp (maxSteps := 3000000) only [go_sem, Int.reduceLT, Int.reduceLE, Int.reduceEq, Int.reduceToNat]) | ((with_reducible refine isSK ?_); first | refine call_ret (locI (b := b) (Rd.own0 rfl (by rfl) (by rfl )) h12 hb6 hQ.hM hQ.mj) ?_ ?_ | refine call_ret (locS (b := b) (Rd.own0 rfl (by rfl) (by rfl )) h12 hb6 hQ.hM hQ.mj) ?_ ?_ | refine call_ret (allI (b := b) (Rd.own0 rfl (by rfl) (by rfl )) h12 hb6 hQ.pl_) ?_ ?_) )
  rw [hT]
  exact poD hw hx hq h1 h2 h81 h82 hl1 hl2 hp hb6 h12 ho hQ hB hn
end Go.Proofs.YtaekjojblkhfdaaGreatDoor
namespace Go.Proofs.YtaekjojblkhfdaaGreatDoor
open Go Go.Sx
open Go.RowKit
theorem poB {cx : Cx} {H : List Blk} {x1 x2 : V} {l1 l2 : List Int} {b : List (Nat → Int)} {g68 g69 g70 g71 g72 g73 g74 g75 g76 g77 g78 g79 g80 g81 g82 g83 g84 g85 g86 g87 g88 g89 g90 g91 g92 g93 g94 g95 g96 g97 g98 : V} {o M D : List Int} {S lo kn pl few : Int} (hw : HWf H) (hx : cx.n0 = H.length) (hq : ∀ e s, fin Tryz.prog H.length [ResultVar.tmp 4] (fun v H' => v = .v (.bool true) ∧ H' = H) e s → cx.Q e s) (h1 : Rd H x1 u8C l1) (h2 : Rd H x2 u8C l2) (h81 : B8 l1) (h82 : B8 l2) (hl1 : l1.length ≤ 4096) (hl2 : l2.length ≤ 4096) (hp : PinR H) (hb6 : b.length ≤ 6) (h12 : ∀ f ∈ b, F12 f) (ho : OrdP o b.length) (hQ : OQ b o M S lo kn pl) (hB : OB b D S lo kn few) (hn : 1 ≤ b.length) :
    WK Tryz.prog cx [] (restC 8 (Tryz.f3.body.getD .skip)) ⟨[x1, x2, .any, .any, .v (.bool false), .s H.length 0 b.length (.u 0), .v (.int .i64 (b.length)), .s (H.length + 1) 0 b.length (.u 0), .s (H.length + 2) 0 b.length (.u 0), .v (.int .i64 0), .v (.bool true), .v (.int .i64 0), .v (.int .i64 (S)), .v (.int .i64 0), .any, .any, .any, .any, .any, .any, .any, .any, .any, .any, .any, .any, .any, .any, .any, .any, .any, .any, .any, .any, .any, .any, .any, .any, .any, .any, .any, .any, .any, .any, .any, .any, .any, .any, .any, .any, .any, .any, .any, .any, .any, .any, .any, .any, .any, .any, .any, .any, .any, .any, .any, .any, .any, .any, g68, g69, g70, g71, g72, g73, g74, g75, g76, g77, g78, g79, g80, g81, g82, g83, g84, g85, g86, g87, g88, g89, g90, g91, g92, g93, g94, g95, g96, g97, g98] ++ junk 407, H ++ [⟨b.flatMap (rowL .u16 12), 50, .own 12⟩, ⟨o.flatMap i64C, 2, .own 1⟩, ⟨o.flatMap i64C, 2, .own 1⟩]⟩ := by
  /-MAXS-/
  have hsol1 := h1.solid
  have hsol2 := h2.solid
  have hn1 : norefH H.length H := norefH_wf hw (Nat.le_refl _)
  have hb0 : Tryz.f3.body = some _ := rfl
  obtain ⟨T, hT⟩ : ∃ T, T = restC 12 (Tryz.f3.body.getD .skip) := ⟨_, rfl⟩
  rw [hb0] at hT ⊢
  clear hb0
  simp only [Option.getD_some, restC]
  refine WK_cut 4 (T := T) (by rw [hT]; rfl) ?_
  simp only [graftC]
  repeat (first | (simp (maxSteps := 3000000) only [go_sem, Int.reduceLT, Int.reduceLE, Int.reduceEq, Int.reduceToNat]) | ((with_reducible refine isSK ?_); first | refine call_ret (bestI (b := b) (p := -1) (Rd.own0 rfl (by rfl) (by rfl )) h12 hb6 hn (by omega) hB.hD) ?_ ?_ | refine call_ret (bestS (b := b) (p := -1) (Rd.own0 rfl (by rfl) (by rfl )) h12 hb6 hn (by omega) hB.hD) ?_ ?_ | refine call_ret (treeI (b := b) (Rd.own0 rfl (by rfl) (by rfl )) h12 hb6 hQ.tb) ?_ ?_ | refine call_ret (treeS (b := b) (Rd.own0 rfl (by rfl) (by rfl )) h12 hb6 hQ.tb) ?_ ?_) )
  rw [hT]
  exact poC hw hx hq h1 h2 h81 h82 hl1 hl2 hp hb6 h12 ho hQ hB hn
end Go.Proofs.YtaekjojblkhfdaaGreatDoor
namespace Go.Proofs.YtaekjojblkhfdaaGreatDoor
open Go Go.Sx
open Go.RowKit
theorem poGz {cx : Cx} {H : List Blk} {x1 x2 : V} {l1 l2 : List Int} {b : List (Nat → Int)} {g8 g9 g10 g11 g13 g14 g15 g19 g20 g21 g23 g24 g25 g26 g29 g30 g31 g32 g33 g34 g35 g36 g37 g38 g39 g40 g41 g68 g69 g70 g71 g72 g73 g74 g75 g76 g77 g78 g79 g80 g81 g82 g83 g84 g85 g86 g87 g88 g89 g90 g91 g92 g93 g94 g95 g96 g97 g98 g99 g100 g101 g102 g103 g104 g105 g106 g107 g108 g109 g110 g111 g112 g113 g114 g115 g116 g117 g118 g119 g120 g121 g122 g123 g124 g125 g126 g127 g128 g129 g130 g131 g132 g133 g134 g135 g136 g137 g138 g139 g140 g141 g142 g143 g144 g145 g146 g147 g148 g149 g150 g151 g152 g153 g154 g155 g156 g157 g158 g159 g160 g161 g162 g163 g164 g165 g166 g167 g168 g169 g170 g171 g172 g173 g174 g175 g176 g177 g178 g179 g180 g181 g182 g183 g184 g185 g186 g187 g188 g189 g190 g191 g192 g193 g194 g195 g196 g197 g198 g199 g200 g201 g202 g203 g204 g205 g206 g207 g208 g209 g210 g211 g212 g213 g214 g215 g216 g217 g218 g219 g220 g221 g222 g223 g224 g225 g226 g227 g228 g229 g230 g231 g232 g233 g234 g235 g236 g237 g238 g239 g240 g241 g242 g243 g244 g245 g246 g247 g248 g249 g250 g251 g252 g253 g254 g255 g256 g257 g258 g259 g260 g261 g262 g263 g264 g265 g266 g267 g268 g269 g270 g271 g272 g273 g274 g275 g276 g277 g278 g279 g280 g281 g282 g283 g284 g285 g286 g287 : V} {r1 r2 r3 r5 r6 q1 q2 q3 q4 q5 : Blk} {o M : List Int} {S lo kn pl : Int} (hw : HWf H) (hx : cx.n0 = H.length) (hq : ∀ e s, fin Tryz.prog H.length [ResultVar.tmp 4] (fun v H' => v = .v (.bool true) ∧ H' = H) e s → cx.Q e s) (h1 : Rd H x1 u8C l1) (h2 : Rd H x2 u8C l2) (h81 : B8 l1) (h82 : B8 l2) (hl1 : l1.length ≤ 4096) (hl2 : l2.length ≤ 4096) (hp : PinR H) (hb6 : b.length ≤ 6) (h12 : ∀ f ∈ b, F12 f) (ho : OrdP o b.length) (hQ : OQ b o M S lo kn pl) (hn : b.length = 0) :
    WK Tryz.prog cx [] (restC 22 (Tryz.f3.body.getD .skip)) ⟨[x1, x2, .any, .any, .v (.bool false), .s H.length 0 b.length (.u 0), .v (.int .i64 (b.length)), .s (H.length + 1) 0 b.length (.u 0), g8, g9, g10, g11, .v (.int .i64 (S)), g13, g14, g15, .v (.int .i64 (6)), .s (H.length + 3) 0 0 (.u 0), .v (.int .i64 0), g19, g20, g21, .v (.int .i64 (lo)), g23, g24, g25, g26, .s (H.length + 5) 0 b.length (.u 0), .v (.int .i64 (kn)), g29, g30, g31, g32, g33, g34, g35, g36, g37, g38, g39, g40, g41, .any, .any, .any, .any, .any, .any, .any, .any, .any, .any, .any, .any, .any, .any, .any, .any, .any, .any, .any, .any, .any, .any, .any, .any, .any, .any, g68, g69, g70, g71, g72, g73, g74, g75, g76, g77, g78, g79, g80, g81, g82, g83, g84, g85, g86, g87, g88, g89, g90, g91, g92, g93, g94, g95, g96, g97, g98, g99, g100, g101, g102, g103, g104, g105, g106, g107, g108, g109, g110, g111, g112, g113, g114, g115, g116, g117, g118, g119, g120, g121, g122, g123, g124, g125, g126, g127, g128, g129, g130, g131, g132, g133, g134, g135, g136, g137, g138, g139, g140, g141, g142, g143, g144, g145, g146, g147, g148, g149, g150, g151, g152, g153, g154, g155, g156, g157, g158, g159, g160, g161, g162, g163, g164, g165, g166, g167, g168, g169, g170, g171, g172, g173, g174, g175, g176, g177, g178, g179, g180, g181, g182, g183, g184, g185, g186, g187, g188, g189, g190, g191, g192, g193, g194, g195, g196, g197, g198, g199, g200, g201, g202, g203, g204, g205, g206, g207, g208, g209, g210, g211, g212, g213, g214, g215, g216, g217, g218, g219, g220, g221, g222, g223, g224, g225, g226, g227, g228, g229, g230, g231, g232, g233, g234, g235, g236, g237, g238, g239, g240, g241, g242, g243, g244, g245, g246, g247, g248, g249, g250, g251, g252, g253, g254, g255, g256, g257, g258, g259, g260, g261, g262, g263, g264, g265, g266, g267, g268, g269, g270, g271, g272, g273, g274, g275, g276, g277, g278, g279, g280, g281, g282, g283, g284, g285, g286, g287] ++ junk 218, H ++ [⟨b.flatMap (rowL .u16 12), 50, .own 12⟩, r1, r2, r3, r5, r6, q1, q2, q3, q4, q5]⟩ := by
  /-MAXS-/
  have hsol1 := h1.solid
  have hsol2 := h2.solid
  have hn1 : norefH H.length H := norefH_wf hw (Nat.le_refl _)
  have hb0 : Tryz.f3.body = some _ := rfl
  rw [hb0]
  clear hb0
  simp only [Option.getD_some, restC]
  have e1 : ((b.length : Int) = 0) = True := eq_true (by omega)
  repeat ((simp (maxSteps := 3000000) only [go_sem, Int.reduceLT, Int.reduceLE, Int.reduceEq, Int.reduceToNat, e1]) )
  refine ret_cut hq hw _ (.inl rfl) ?_
  simp [go_sem]
end Go.Proofs.YtaekjojblkhfdaaGreatDoor
namespace Go.Proofs.YtaekjojblkhfdaaGreatDoor
open Go Go.Sx
open Go.RowKit
theorem poFz {cx : Cx} {H : List Blk} {x1 x2 : V} {l1 l2 : List Int} {b : List (Nat → Int)} {g8 g9 g10 g11 g13 g14 g15 g19 g20 g21 g23 g24 g25 g26 g29 g30 g31 g68 g69 g70 g71 g72 g73 g74 g75 g76 g77 g78 g79 g80 g81 g82 g83 g84 g85 g86 g87 g88 g89 g90 g91 g92 g93 g94 g95 g96 g97 g98 g99 g100 g101 g102 g103 g104 g105 g106 g107 g108 g109 g110 g111 g112 g113 g114 g115 g116 g117 g118 g119 g120 g121 g122 g123 g124 g125 g126 g127 g128 g129 g130 g131 g132 g133 g134 g135 g136 g137 g138 g139 g140 g141 g142 g143 g144 g145 g146 g147 g148 g149 g150 g151 g152 g153 g154 g155 g156 g157 g158 g159 g160 g161 g162 g163 g164 g165 g166 g167 g168 g169 g170 g171 g172 g173 g174 g175 g176 g177 g178 g179 g180 g181 g182 g183 g184 g185 g186 g187 g188 g189 g190 g191 g192 g193 g194 g195 g196 g197 g198 g199 g200 g201 g202 g203 g204 g205 g206 g207 g208 g209 g210 g211 g212 g213 g214 g215 g216 g217 g218 g219 g220 g221 g222 g223 g224 g225 g226 g227 g228 g229 g230 g231 g232 g233 g234 g235 g236 g237 g238 g239 g240 g241 g242 g243 g244 g245 g246 g247 g248 g249 : V} {r2 r3 r5 : Blk} {o M P : List Int} {S lo kn pl : Int} (hw : HWf H) (hx : cx.n0 = H.length) (hq : ∀ e s, fin Tryz.prog H.length [ResultVar.tmp 4] (fun v H' => v = .v (.bool true) ∧ H' = H) e s → cx.Q e s) (h1 : Rd H x1 u8C l1) (h2 : Rd H x2 u8C l2) (h81 : B8 l1) (h82 : B8 l2) (hl1 : l1.length ≤ 4096) (hl2 : l2.length ≤ 4096) (hp : PinR H) (hb6 : b.length ≤ 6) (h12 : ∀ f ∈ b, F12 f) (ho : OrdP o b.length) (hQ : OQ b o M S lo kn pl) (hn : b.length = 0) (hP : opN o b.length = P) :
    WK Tryz.prog cx [] (restC 21 (Tryz.f3.body.getD .skip)) ⟨[x1, x2, .any, .any, .v (.bool false), .s H.length 0 b.length (.u 0), .v (.int .i64 (b.length)), .s (H.length + 1) 0 b.length (.u 0), g8, g9, g10, g11, .v (.int .i64 (S)), g13, g14, g15, .v (.int .i64 (6)), .s (H.length + 3) 0 0 (.u 0), .v (.int .i64 0), g19, g20, g21, .v (.int .i64 (lo)), g23, g24, g25, g26, .s (H.length + 5) 0 b.length (.u 0), .v (.int .i64 (kn)), g29, g30, g31, .s (H.length + 6) 0 b.length (.k b.length), .v (.int .i64 0), .s (H.length + 7) 0 b.length (.k b.length), .v (.int .i64 0), .s (H.length + 8) 0 b.length (.u 0), .v (.int .i64 0), .s (H.length + 9) 0 b.length (.u 0), .v (.int .i64 0), .s (H.length + 10) 0 b.length (.u 0), .v (.int .i64 0), .any, .any, .any, .any, .any, .any, .any, .any, .any, .any, .any, .any, .any, .any, .any, .any, .any, .any, .any, .any, .any, .any, .any, .any, .any, .any, g68, g69, g70, g71, g72, g73, g74, g75, g76, g77, g78, g79, g80, g81, g82, g83, g84, g85, g86, g87, g88, g89, g90, g91, g92, g93, g94, g95, g96, g97, g98, g99, g100, g101, g102, g103, g104, g105, g106, g107, g108, g109, g110, g111, g112, g113, g114, g115, g116, g117, g118, g119, g120, g121, g122, g123, g124, g125, g126, g127, g128, g129, g130, g131, g132, g133, g134, g135, g136, g137, g138, g139, g140, g141, g142, g143, g144, g145, g146, g147, g148, g149, g150, g151, g152, g153, g154, g155, g156, g157, g158, g159, g160, g161, g162, g163, g164, g165, g166, g167, g168, g169, g170, g171, g172, g173, g174, g175, g176, g177, g178, g179, g180, g181, g182, g183, g184, g185, g186, g187, g188, g189, g190, g191, g192, g193, g194, g195, g196, g197, g198, g199, g200, g201, g202, g203, g204, g205, g206, g207, g208, g209, g210, g211, g212, g213, g214, g215, g216, g217, g218, g219, g220, g221, g222, g223, g224, g225, g226, g227, g228, g229, g230, g231, g232, g233, g234, g235, g236, g237, g238, g239, g240, g241, g242, g243, g244, g245, g246, g247, g248, g249] ++ junk 256, H ++ [⟨b.flatMap (rowL .u16 12), 50, .own 12⟩, ⟨o.flatMap i64C, 2, .own 1⟩, r2, r3, r5, ⟨M.flatMap i64C, 2, .own 1⟩, ⟨P.flatMap i64C, 2, .fix⟩, ⟨P.flatMap i64C, 2, .fix⟩, ⟨(inO b o).flatMap (rowL .u16 12), 50, .own 12⟩, ⟨(inO b o).flatMap (rowL .u16 12), 50, .own 12⟩, ⟨b.flatMap (rowL .u16 12), 50, .own 12⟩]⟩ := by
  /-MAXS-/
  have hsol1 := h1.solid
  have hsol2 := h2.solid
  have hn1 : norefH H.length H := norefH_wf hw (Nat.le_refl _)
  have hb0 : Tryz.f3.body = some _ := rfl
  obtain ⟨T, hT⟩ : ∃ T, T = restC 22 (Tryz.f3.body.getD .skip) := ⟨_, rfl⟩
  rw [hb0] at hT ⊢
  clear hb0
  simp only [Option.getD_some, restC]
  refine WK_cut 1 (T := T) (by rw [hT]; rfl) ?_
  simp only [graftC]
  have hPl : P.length ≤ 6 := by rw [← hP, opN_len, ho.1]; exact hb6
  have hIl : (inO b o).length ≤ 6 := by rw [inO_len, ho.1]; exact hb6
  repeat (first | (simp (maxSteps := 3000000) only [go_sem, Int.reduceLT, Int.reduceLE, Int.reduceEq, Int.reduceToNat]) | ((with_reducible refine isSK ?_); first | refine call_ret (sameNumbers (l := P) (Rd.own 6 rfl (by rfl) (by rw [← hP, opN_len, ho.1])) (Rd.own 7 rfl (by rfl) (by rw [← hP, opN_len, ho.1])) (by omega)) ?_ ?_ | refine call_ret (sameBook (l := inO b o) (Rd.own 8 rfl (by rfl) (by rw [inO_len, ho.1])) (Rd.own 9 rfl (by rfl) (by rw [inO_len, ho.1])) (by omega)) ?_ ?_ | refine call_ret (sameBook (l := b) (Rd.own 10 rfl (by rfl) (by rfl )) (Rd.own0 rfl (by rfl) (by rfl )) (by omega)) ?_ ?_) )
  rw [hT]
  exact poGz hw hx hq h1 h2 h81 h82 hl1 hl2 hp hb6 h12 ho hQ hn
end Go.Proofs.YtaekjojblkhfdaaGreatDoor
namespace Go.Proofs.YtaekjojblkhfdaaGreatDoor
open Go Go.Sx
open Go.RowKit
theorem poEz {cx : Cx} {H : List Blk} {x1 x2 : V} {l1 l2 : List Int} {b : List (Nat → Int)} {g8 g9 g10 g11 g13 g14 g15 g19 g20 g21 g23 g24 g25 g26 g29 g30 g31 g68 g69 g70 g71 g72 g73 g74 g75 g76 g77 g78 g79 g80 g81 g82 g83 g84 g85 g86 g87 g88 g89 g90 g91 g92 g93 g94 g95 g96 g97 g98 g99 g100 g101 g102 g103 g104 g105 g106 g107 g108 g109 g110 g111 g112 g113 g114 g115 g116 g117 g118 g119 g120 g121 g122 g123 g124 g125 g126 g127 g128 g129 g130 g131 g132 g133 g134 g135 g136 g137 g138 g139 g140 g141 g142 g143 g144 g145 g146 g147 g148 g149 g150 g151 g152 g153 g154 g155 g156 g157 g158 g159 g160 g161 g162 g163 g164 g165 g166 g167 g168 g169 g170 g171 g172 g173 g174 g175 g176 g177 g178 g179 g180 g181 g182 g183 g184 g185 g186 g187 g188 g189 g190 g191 g192 g193 g194 g195 g196 g197 g198 g199 g200 g201 g202 g203 g204 g205 g206 g207 g208 g209 g210 g211 g212 g213 g214 g215 g216 g217 g218 g219 g220 g221 : V} {r2 r3 r5 : Blk} {o M P : List Int} {S lo kn pl : Int} (hw : HWf H) (hx : cx.n0 = H.length) (hq : ∀ e s, fin Tryz.prog H.length [ResultVar.tmp 4] (fun v H' => v = .v (.bool true) ∧ H' = H) e s → cx.Q e s) (h1 : Rd H x1 u8C l1) (h2 : Rd H x2 u8C l2) (h81 : B8 l1) (h82 : B8 l2) (hl1 : l1.length ≤ 4096) (hl2 : l2.length ≤ 4096) (hp : PinR H) (hb6 : b.length ≤ 6) (h12 : ∀ f ∈ b, F12 f) (ho : OrdP o b.length) (hQ : OQ b o M S lo kn pl) (hn : b.length = 0) (hP : opN o b.length = P) :
    WK Tryz.prog cx [] (restC 16 (Tryz.f3.body.getD .skip)) ⟨[x1, x2, .any, .any, .v (.bool false), .s H.length 0 b.length (.u 0), .v (.int .i64 (b.length)), .s (H.length + 1) 0 b.length (.u 0), g8, g9, g10, g11, .v (.int .i64 (S)), g13, g14, g15, .v (.int .i64 (6)), .s (H.length + 3) 0 0 (.u 0), .v (.int .i64 0), g19, g20, g21, .v (.int .i64 (lo)), g23, g24, g25, g26, .s (H.length + 5) 0 b.length (.u 0), .v (.int .i64 (kn)), g29, g30, g31, .any, .any, .any, .any, .any, .any, .any, .any, .any, .any, .any, .any, .any, .any, .any, .any, .any, .any, .any, .any, .any, .any, .any, .any, .any, .any, .any, .any, .any, .any, .any, .any, .any, .any, .any, .any, g68, g69, g70, g71, g72, g73, g74, g75, g76, g77, g78, g79, g80, g81, g82, g83, g84, g85, g86, g87, g88, g89, g90, g91, g92, g93, g94, g95, g96, g97, g98, g99, g100, g101, g102, g103, g104, g105, g106, g107, g108, g109, g110, g111, g112, g113, g114, g115, g116, g117, g118, g119, g120, g121, g122, g123, g124, g125, g126, g127, g128, g129, g130, g131, g132, g133, g134, g135, g136, g137, g138, g139, g140, g141, g142, g143, g144, g145, g146, g147, g148, g149, g150, g151, g152, g153, g154, g155, g156, g157, g158, g159, g160, g161, g162, g163, g164, g165, g166, g167, g168, g169, g170, g171, g172, g173, g174, g175, g176, g177, g178, g179, g180, g181, g182, g183, g184, g185, g186, g187, g188, g189, g190, g191, g192, g193, g194, g195, g196, g197, g198, g199, g200, g201, g202, g203, g204, g205, g206, g207, g208, g209, g210, g211, g212, g213, g214, g215, g216, g217, g218, g219, g220, g221] ++ junk 284, H ++ [⟨b.flatMap (rowL .u16 12), 50, .own 12⟩, ⟨o.flatMap i64C, 2, .own 1⟩, r2, r3, r5, ⟨M.flatMap i64C, 2, .own 1⟩]⟩ := by
  /-MAXS-/
  have hsol1 := h1.solid
  have hsol2 := h2.solid
  have hn1 : norefH H.length H := norefH_wf hw (Nat.le_refl _)
  have hb0 : Tryz.f3.body = some _ := rfl
  obtain ⟨T, hT⟩ : ∃ T, T = restC 21 (Tryz.f3.body.getD .skip) := ⟨_, rfl⟩
  rw [hb0] at hT ⊢
  clear hb0
  simp only [Option.getD_some, restC]
  refine WK_cut 5 (T := T) (by rw [hT]; rfl) ?_
  simp only [graftC]
  repeat (first | (simp (maxSteps := 3000000) only [go_sem, Int.reduceLT, Int.reduceLE, Int.reduceEq, Int.reduceToNat]) | ((with_reducible refine isSK ?_); first | refine call_ret (opI (o := o) (Rd.own 1 rfl (by rfl) ho.1.symm) ho hb6 hP) ?_ ?_ | refine call_ret (opS (o := o) (Rd.own 1 rfl (by rfl) ho.1.symm) ⟨_, by rw [ho.1], (by exact (Go.Sx.get_at _ _ 1).trans rfl)⟩ ho hb6 hP) ?_ ?_ | refine call_ret (roI (b := b) (o := o) (Rd.own0 rfl (by rfl) (by rfl )) (Rd.own 1 rfl (by rfl) ho.1.symm) h12 hb6 ho) ?_ ?_ | refine call_ret (roS (b := b) (o := o) (Rd.own0 rfl (by rfl) (by rfl )) (Rd.own 1 rfl (by rfl) ho.1.symm) ⟨_, by rw [ho.1], (by exact (Go.Sx.get_at _ _ 1).trans rfl)⟩ h12 hb6 ho) ?_ ?_ | refine call_ret (hoI (b := b) (o := o) (P := P) (Rd.own 9 rfl (by rfl) (by rw [inO_len, ho.1])) (Rd.own 7 rfl (by rfl) (by rw [← hP, opN_len, ho.1])) h12 hb6 ho hP) ?_ ?_) )
  rw [hT]
  exact poFz hw hx hq h1 h2 h81 h82 hl1 hl2 hp hb6 h12 ho hQ hn hP
end Go.Proofs.YtaekjojblkhfdaaGreatDoor
namespace Go.Proofs.YtaekjojblkhfdaaGreatDoor
open Go Go.Sx
open Go.RowKit
theorem poDz {cx : Cx} {H : List Blk} {x1 x2 : V} {l1 l2 : List Int} {b : List (Nat → Int)} {g68 g69 g70 g71 g72 g73 g74 g75 g76 g77 g78 g79 g80 g81 g82 g83 g84 g85 g86 g87 g88 g89 g90 g91 g92 g93 g94 g95 g96 g97 g98 g99 g100 g101 g102 g103 g104 g105 g106 g107 g108 g109 g110 g111 g112 g113 g114 g115 g116 g117 g118 g119 g120 g121 g122 g123 g124 g125 g126 g127 g128 g129 g130 g131 g132 g133 g134 g135 g136 g137 : V} {o M : List Int} {S lo kn pl : Int} (hw : HWf H) (hx : cx.n0 = H.length) (hq : ∀ e s, fin Tryz.prog H.length [ResultVar.tmp 4] (fun v H' => v = .v (.bool true) ∧ H' = H) e s → cx.Q e s) (h1 : Rd H x1 u8C l1) (h2 : Rd H x2 u8C l2) (h81 : B8 l1) (h82 : B8 l2) (hl1 : l1.length ≤ 4096) (hl2 : l2.length ≤ 4096) (hp : PinR H) (hb6 : b.length ≤ 6) (h12 : ∀ f ∈ b, F12 f) (ho : OrdP o b.length) (hQ : OQ b o M S lo kn pl) (hn : b.length = 0) :
    WK Tryz.prog cx [] (restC 15 (Tryz.f3.body.getD .skip)) ⟨[x1, x2, .any, .any, .v (.bool false), .s H.length 0 b.length (.u 0), .v (.int .i64 (b.length)), .s (H.length + 1) 0 b.length (.u 0), .s (H.length + 2) 0 b.length (.u 0), .v (.int .i64 0), .v (.bool true), .v (.int .i64 0), .v (.int .i64 (S)), .v (.int .i64 0), .v (.slice none 0 0), .v (.int .i64 0), .v (.int .i64 (6)), .s (H.length + 3) 0 0 (.u 0), .v (.int .i64 0), .v (.int .i64 (6)), .v (.int .i64 (lo)), .v (.int .i64 0), .v (.int .i64 (lo)), .v (.int .i64 0), .s (H.length + 4) 0 b.length (.u 0), .v (.int .i64 (kn)), .v (.int .i64 0), .s (H.length + 5) 0 b.length (.u 0), .v (.int .i64 (kn)), .v (.int .i64 0), .v (.int .i64 (pl)), .v (.int .i64 0), .any, .any, .any, .any, .any, .any, .any, .any, .any, .any, .any, .any, .any, .any, .any, .any, .any, .any, .any, .any, .any, .any, .any, .any, .any, .any, .any, .any, .any, .any, .any, .any, .any, .any, .any, .any, g68, g69, g70, g71, g72, g73, g74, g75, g76, g77, g78, g79, g80, g81, g82, g83, g84, g85, g86, g87, g88, g89, g90, g91, g92, g93, g94, g95, g96, g97, g98, g99, g100, g101, g102, g103, g104, g105, g106, g107, g108, g109, g110, g111, g112, g113, g114, g115, g116, g117, g118, g119, g120, g121, g122, g123, g124, g125, g126, g127, g128, g129, g130, g131, g132, g133, g134, g135, g136, g137] ++ junk 368, H ++ [⟨b.flatMap (rowL .u16 12), 50, .own 12⟩, ⟨o.flatMap i64C, 2, .own 1⟩, ⟨o.flatMap i64C, 2, .own 1⟩, ⟨[], 2, .own 1⟩, ⟨M.flatMap i64C, 2, .own 1⟩, ⟨M.flatMap i64C, 2, .own 1⟩]⟩ := by
  /-MAXS-/
  have hsol1 := h1.solid
  have hsol2 := h2.solid
  have hn1 : norefH H.length H := norefH_wf hw (Nat.le_refl _)
  have hb0 : Tryz.f3.body = some _ := rfl
  obtain ⟨T, hT⟩ : ∃ T, T = restC 16 (Tryz.f3.body.getD .skip) := ⟨_, rfl⟩
  rw [hb0] at hT ⊢
  clear hb0
  simp only [Option.getD_some, restC]
  refine WK_cut 1 (T := T) (by rw [hT]; rfl) ?_
  simp only [graftC]
  simp only [List.append_eq, List.cons_append, List.nil_append]
  have d1 : (pl < kn) = False := eq_false (by have := hQ.kp; omega)
  have d2 : (S < lo) = False := eq_false (by have := hQ.ls; omega)
  repeat (first | (simp (maxSteps := 3000000) only [go_sem, Int.reduceLT, Int.reduceLE, Int.reduceEq, Int.reduceToNat, d1, d2]) | ((with_reducible refine isSK ?_); first | refine call_ret (sameNumbers (l := o) (Rd.own 2 rfl (by rfl) ho.1.symm) (Rd.own 1 rfl (by rfl) ho.1.symm) (by have := ho.1; omega)) ?_ ?_ | refine call_ret (sameNumbers (l := []) (by exact Rd.nil _ _ ) (Rd.own 3 rfl (by rfl) rfl) (by simp)) ?_ ?_ | refine call_ret (sameNumbers (l := M) (Rd.own 4 rfl (by rfl) hQ.mo.1.symm) (Rd.own 5 rfl (by rfl) hQ.mo.1.symm) (by have := hQ.mo.1; omega)) ?_ ?_) )
  rw [hT]
  exact poEz hw hx hq h1 h2 h81 h82 hl1 hl2 hp hb6 h12 ho hQ hn rfl
end Go.Proofs.YtaekjojblkhfdaaGreatDoor
namespace Go.Proofs.YtaekjojblkhfdaaGreatDoor
open Go Go.Sx
open Go.RowKit
theorem poCz {cx : Cx} {H : List Blk} {x1 x2 : V} {l1 l2 : List Int} {b : List (Nat → Int)} {g68 g69 g70 g71 g72 g73 g74 g75 g76 g77 g78 g79 g80 g81 g82 g83 g84 g85 g86 g87 g88 g89 g90 g91 g92 g93 g94 g95 g96 g97 g98 g99 g100 g101 g102 g103 g104 g105 g106 g107 g108 g109 g110 g111 g112 g113 g114 g115 g116 g117 g118 g119 g120 : V} {o M : List Int} {S lo kn pl : Int} (hw : HWf H) (hx : cx.n0 = H.length) (hq : ∀ e s, fin Tryz.prog H.length [ResultVar.tmp 4] (fun v H' => v = .v (.bool true) ∧ H' = H) e s → cx.Q e s) (h1 : Rd H x1 u8C l1) (h2 : Rd H x2 u8C l2) (h81 : B8 l1) (h82 : B8 l2) (hl1 : l1.length ≤ 4096) (hl2 : l2.length ≤ 4096) (hp : PinR H) (hb6 : b.length ≤ 6) (h12 : ∀ f ∈ b, F12 f) (ho : OrdP o b.length) (hQ : OQ b o M S lo kn pl) (hn : b.length = 0) :
    WK Tryz.prog cx [] (restC 12 (Tryz.f3.body.getD .skip)) ⟨[x1, x2, .any, .any, .v (.bool false), .s H.length 0 b.length (.u 0), .v (.int .i64 (b.length)), .s (H.length + 1) 0 b.length (.u 0), .s (H.length + 2) 0 b.length (.u 0), .v (.int .i64 0), .v (.bool true), .v (.int .i64 0), .v (.int .i64 (S)), .v (.int .i64 0), .v (.slice none 0 0), .v (.int .i64 0), .v (.int .i64 (6)), .s (H.length + 3) 0 0 (.u 0), .v (.int .i64 0), .v (.int .i64 (6)), .v (.int .i64 (lo)), .v (.int .i64 0), .v (.int .i64 (lo)), .v (.int .i64 0), .any, .any, .any, .any, .any, .any, .any, .any, .any, .any, .any, .any, .any, .any, .any, .any, .any, .any, .any, .any, .any, .any, .any, .any, .any, .any, .any, .any, .any, .any, .any, .any, .any, .any, .any, .any, .any, .any, .any, .any, .any, .any, .any, .any, g68, g69, g70, g71, g72, g73, g74, g75, g76, g77, g78, g79, g80, g81, g82, g83, g84, g85, g86, g87, g88, g89, g90, g91, g92, g93, g94, g95, g96, g97, g98, g99, g100, g101, g102, g103, g104, g105, g106, g107, g108, g109, g110, g111, g112, g113, g114, g115, g116, g117, g118, g119, g120] ++ junk 385, H ++ [⟨b.flatMap (rowL .u16 12), 50, .own 12⟩, ⟨o.flatMap i64C, 2, .own 1⟩, ⟨o.flatMap i64C, 2, .own 1⟩, ⟨[], 2, .own 1⟩]⟩ := by
  /-MAXS-/
  have hsol1 := h1.solid
  have hsol2 := h2.solid
  have hn1 : norefH H.length H := norefH_wf hw (Nat.le_refl _)
  have hb0 : Tryz.f3.body = some _ := rfl
  obtain ⟨T, hT⟩ : ∃ T, T = restC 15 (Tryz.f3.body.getD .skip) := ⟨_, rfl⟩
  rw [hb0] at hT ⊢
  clear hb0
  simp only [Option.getD_some, restC]
  refine WK_cut 3 (T := T) (by rw [hT]; rfl) ?_
  simp only [graftC]
  repeat (first | (simp (maxSteps := 3000000) only [go_sem, Int.reduceLT, Int.reduceLE, Int.reduceEq, Int.reduceToNat]) | ((with_reducible refine isSK ?_); first | refine call_ret (locI (b := b) (Rd.own0 rfl (by rfl) (by rfl )) h12 hb6 hQ.hM hQ.mj) ?_ ?_ | refine call_ret (locS (b := b) (Rd.own0 rfl (by rfl) (by rfl )) h12 hb6 hQ.hM hQ.mj) ?_ ?_ | refine call_ret (allI (b := b) (Rd.own0 rfl (by rfl) (by rfl )) h12 hb6 hQ.pl_) ?_ ?_) )
  rw [hT]
  exact poDz hw hx hq h1 h2 h81 h82 hl1 hl2 hp hb6 h12 ho hQ hn
end Go.Proofs.YtaekjojblkhfdaaGreatDoor
