/- Contracts of functions of the translated program, by the walk. -/
import Derived.Test.YtcebmjajnbafoaaGreatDoorFp4
import Derived.Test.YtcebmjajnbafoaaGreatDoorTt2
import Derived.Test.YtcebmjajnbafoaaGreatDoorDt5
import Derived.Test.YtcebmjajnbafoaaGreatDoorK14
import Derived.Test.YtcebmjajnbafoaaGreatDoorLD
import Derived.RangeFuncBox
import Derived.RangeFuncLeaves
import Derived.RangeFuncWrites
import Derived.RangeFuncKeeps
import Derived.Shelf.Abstract
import Derived.WalkKit
import Derived.OwnWalkIn
import Derived.TacticsInMore
import Derived.LoopNIn
import Derived.LoopIn
import Derived.Maps.AppendAt
import Derived.Test.YtcebmjajnbafoaaGreatDoorK17
import Derived.RangeFuncNested
import Derived.OrdersHeld
import Derived.Laws.AppendOwn
set_option linter.unusedVariables false
set_option linter.unusedSimpArgs false
set_option maxRecDepth 8000
set_option maxHeartbeats 16000000
namespace Go.Proofs.YtcebmjajnbafoaaGreatDoor
open Go Go.Sx
theorem keyT_form (a : Nat → Int) : keyT a = decI (a 0) ++ 58 :: (decI (a 1) ++ 44 :: decI (a 2)) := by
  unfold keyT; simp [List.append_assoc]
theorem key_im {a : Nat → Int} (h : okK a = true) : imO (keyT a) = true ∧ imF (keyT a) = mdK a := by
  have hk := okK_iff.1 h
  have n0 : (58 : Int) ∉ decI (a 0) := decI_not (by omega) (by omega)
  have n1 : (44 : Int) ∉ decI (a 1) := decI_not (by omega) (by omega)
  have r0 := rd_dec (n := a 0) (lo := 0) (hi := 200) (by omega) (by omega) (by omega) (by omega)
  have r1 := rd_dec (n := a 1) (lo := -24) (hi := 24) (by omega) (by omega) (by omega) (by omega)
  have r2 := rd_dec (n := a 2) (lo := -24) (hi := 24) (by omega) (by omega) (by omega) (by omega)
  unfold imO imF
  rw [keyT_form, cutL_hit n0]
  dsimp only
  rw [cutL_hit n1]
  dsimp only
  rw [r0.1, r1.1, r2.1, r0.2, r1.2, r2.2]
  exact ⟨rfl, rfl⟩
theorem spl_one {c : Int} {t : List Int} (h : c ∉ t) : spl c t = [t] := by
  rcases spl_view c t with ⟨_, e⟩ | ⟨l, r, e, _, _⟩
  · exact e
  · exact absurd (by rw [e]; simp) h
theorem spl_jn : ∀ (ws : List (List Int)), ws ≠ [] → (∀ w ∈ ws, (32 : Int) ∉ w) → spl 32 (jnT [32] ws) = ws
  | [], h, _ => absurd rfl h
  | [w], _, h => by rw [jnT_one]; exact spl_one (h w (by simp))
  | w :: x :: ws, _, h => by
    have ih := spl_jn (x :: ws) (by simp) fun y hy => h y (List.mem_cons_of_mem _ hy)
    have e : jnT [32] (w :: x :: ws) = w ++ 32 :: jnT [32] (x :: ws) := by simp [jnT]
    rw [e, spl_cons (h w (by simp)), ih]
theorem keyT_no32 (a : Nat → Int) : (32 : Int) ∉ keyT a := by
  rw [keyT_form]
  intro h
  have d : ∀ n : Int, (32 : Int) ∉ decI n := fun n => decI_not (by omega) (by omega)
  rcases List.mem_append.1 h with h | h
  · exact d _ h
  · rcases List.mem_cons.1 h with h | h
    · omega
    · rcases List.mem_append.1 h with h | h
      · exact d _ h
      · rcases List.mem_cons.1 h with h | h
        · omega
        · exact d _ h
theorem keyT_ne (a : Nat → Int) : keyT a ≠ [] := by rw [keyT_form]; simp
theorem trkT_ne {l : List (Nat → Int)} (h : 1 ≤ l.length) : trkT l ≠ [] := by
  obtain ⟨a, r, rfl⟩ : ∃ a r, l = a :: r := by
    cases l with
    | nil => simp at h
    | cons a r => exact ⟨a, r, rfl⟩
  intro e
  have e2 := spl_jn (trkL (a :: r)) (by simp [trkL]) fun w hw => by
    obtain ⟨b, _, rfl⟩ := List.mem_map.1 hw
    exact keyT_no32 b
  have e3 : jnT [32] (trkL (a :: r)) = [] := e
  rw [e3] at e2
  have e4 : spl 32 [] = [[]] := rfl
  rw [e4] at e2
  have e5 : trkL (a :: r) = keyT a :: trkL r := rfl
  rw [e5] at e2
  exact keyT_ne a (List.cons.inj e2).1.symm
/-- A track's text reads as the track. -/
theorem track_back {b : List (Nat → Int)} (h : tkOk b = true) (hN : b.map mdK = b) : rtOk (ttT b) = true ∧ rtV (ttT b) = b := by
  have h1 := (tkOk_len h).1
  have e : ttT b = trkT b := by unfold ttT; rw [if_pos h]
  have hs : spl 32 (trkT b) = trkL b := spl_jn (trkL b) (by intro e0; have h0 : ([] : List (List Int)).length = b.length := by { rw [← e0, trkL_len] }; rw [List.length_nil] at h0; omega) fun w hw => by
    obtain ⟨a, _, rfl⟩ := List.mem_map.1 hw
    exact keyT_no32 a
  have hw : wds (trkT b) = trkL b := by unfold wds; rw [if_neg (trkT_ne h1), hs]
  have hok : ∀ a ∈ b, okK a = true := fun a ha => by
    obtain ⟨j, hj, rfl⟩ := List.mem_iff_getElem.1 ha
    exact (tkOk_at h hj).1
  have hm : (trkL b).map imF = b := by
    conv => rhs; rw [← hN]
    unfold trkL
    rw [List.map_map]
    exact List.map_congr_left fun a ha => (key_im (hok a ha)).2
  have hO : rtOk (trkT b) = true := by
    rw [rtOk_im, hw, hm, h, Bool.and_true, List.all_eq_true]
    intro w hw2
    obtain ⟨a, ha, rfl⟩ := List.mem_map.1 hw2
    exact (key_im (hok a ha)).1
  rw [e]
  exact ⟨hO, by rw [rtV_im hO, hw, hm]⟩
theorem keyT_8 (a : Nat → Int) : B8 (keyT a) := fun x hx => by
  rw [keyT_form] at hx
  rcases List.mem_append.1 hx with h | h
  · exact bytI_8 _ x h
  · rcases List.mem_cons.1 h with rfl | h
    · omega
    · rcases List.mem_append.1 h with h | h
      · exact bytI_8 _ x h
      · rcases List.mem_cons.1 h with rfl | h
        · omega
        · exact bytI_8 _ x h
theorem jnT_8 {s : List Int} (hs : B8 s) {ws : List (List Int)} (h : ∀ w ∈ ws, B8 w) : B8 (jnT s ws) := fun x hx => by
  cases ws with
  | nil => cases hx
  | cons w r =>
    rcases List.mem_append.1 hx with hx | hx
    · exact h w (by simp) x hx
    · obtain ⟨y, hy, hx⟩ := List.mem_flatMap.1 hx
      rcases List.mem_append.1 hx with hx | hx
      · exact hs x hx
      · exact h y (List.mem_cons_of_mem _ hy) x hx
theorem ttT_8 (b : List (Nat → Int)) : B8 (ttT b) := by
  unfold ttT
  split
  · refine jnT_8 (fun x hx => ?_) fun w hw => ?_
    · rw [List.mem_singleton.1 hx]; omega
    · obtain ⟨a, _, rfl⟩ := List.mem_map.1 hw
      exact keyT_8 a
  · intro x hx; cases hx
theorem ttT_len {b : List (Nat → Int)} (h : tkOk b = true) : (ttT b).length ≤ 240 := by
  have h20 := (tkOk_len h).2
  have hok : ∀ a ∈ b, okK a = true := fun a ha => by
    obtain ⟨j, hj, rfl⟩ := List.mem_iff_getElem.1 ha
    exact (tkOk_at h hj).1
  have := trkT_len hok
  unfold ttT
  rw [if_pos h]; omega
end Go.Proofs.YtcebmjajnbafoaaGreatDoor
namespace Go.Proofs.YtcebmjajnbafoaaGreatDoor
open Go Go.Sx
theorem map_md2 (b : List (Nat → Int)) : (b.map mdK).map mdK = b.map mdK := by
  rw [List.map_map]; rfl
theorem map_enc (b : List (Nat → Int)) : (b.map mdK).flatMap encK = b.flatMap encK := by
  rw [List.flatMap_map]; rfl
theorem md_at {b : List (Nat → Int)} {j : Nat} (h : j < b.length) : kAt (b.map mdK) j = mdK (kAt b j) := by
  rw [kAt_map h, kAt_at h]
theorem drP_md {b : List (Nat → Int)} (h : DrP b) : DrP (b.map mdK) := by
  refine ⟨fun a ha => ?_, fun j hj => ?_, by rw [List.length_map]; exact h.n1, by rw [List.length_map]; exact h.n5⟩
  · obtain ⟨c, hc, rfl⟩ := List.mem_map.1 ha
    exact h.keys c hc
  · rw [List.length_map] at hj
    rw [md_at (by omega), md_at hj]
    exact h.up j hj
/-- The drawn track, its keys in their own form. -/
theorem P6TrackN {H : List Blk} {cv : V} {l : List Int} (hr : Rd H cv u8C l) (h8 : B8 l) (hll : l.length ≤ 4096) :
    Cal Tryz.prog 5 [cv] H fun u H' => ∃ b : List (Nat → Int), (DrP b ∧ b.map mdK = b) ∧ u = .s H.length 0 b.length (.u 0) ∧ H' = H ++ [⟨b.flatMap encK, 42, .own 3⟩] := by
  refine (P6Track hr h8 hll).mono ?_
  rintro _ _ ⟨b, hb, rfl, rfl⟩
  exact ⟨b.map mdK, ⟨drP_md hb, map_md2 b⟩, by rw [List.length_map], by rw [map_enc]⟩
theorem ttC {H : List Blk} {v : V} {b : List (Nat → Int)} (hp : Pow H) (h : Rd H v encK b) (hb : DrP b) :
    Cal Tryz.prog 8 [v] H fun u H' => u = .v (.string (bstr (ttT b))) ∧ H' = H :=
  implTrackText hp h (tkOk_mem (drP_ok hb)) (by have := hb.n5; omega)
theorem rtC_ {H : List Blk} {b : List (Nat → Int)} (hp : PinR H) (hb : DrP b) (hN : b.map mdK = b) :
    Cal Tryz.prog 7 [.v (.string (bstr (ttT b)))] H fun u H' => u = .t [.s H.length 0 b.length (.u 0), .v (.int .i64 0)] ∧ H' = H ++ [⟨b.flatMap encK, 42, .own 3⟩] := by
  have hk := track_back (drP_ok hb) hN
  have := implReadTrack_ok hp (ttT_8 b) (by have := ttT_len (drP_ok hb); omega) hk.1
  rwa [hk.2] at this
theorem bkS {H : List Blk} {v : V} {b : List (Nat → Int)} (h : Rd H v encK b) (hb : DrP b) :
    Cal Tryz.prog 10 [v] H fun u H' => u = .t [.s H.length 0 b.length (.u 0), .v (.int .i64 0)] ∧ H' = H ++ [⟨(bkL b).flatMap encK, 42, .own 3⟩] := specBackTrack_ok h (drP_ok hb)
theorem thinI {H : List Blk} {v : V} {b : List (Nat → Int)} (h : Rd H v encK b) (hb : DrP b) :
    Cal Tryz.prog 11 [v] H fun u H' => u = .t [.s H.length 0 (thinF b 1).length (.i 0), .v (.int .i64 0)] ∧ H' = H ++ [⟨(thinF b 1 ++ rzF (thinF b 1).length b.length).flatMap encK, 42, .own 3⟩] := implThinTrack_ok h (tkOk_mem (drP_ok hb)) (drP_ok hb)
theorem thinS {H : List Blk} {v : V} {b : List (Nat → Int)} (h : Rd H v encK b) (hb : DrP b) :
    Cal Tryz.prog 12 [v] H fun u H' => u = .t [.s H.length 0 (thinF b 1).length (.u 0), .v (.int .i64 0)] ∧ H' = H ++ [⟨(thinF b 1).flatMap encK, 42, .own 3⟩] := specThinTrack_ok h (tkOk_mem (drP_ok hb)) (drP_ok hb)
theorem ticksC {H : List Blk} {v : V} {b : List (Nat → Int)} (h : Rd H v encK b) (hb : DrP b) :
    Cal Tryz.prog 13 [v] H fun u H' => u = .t [.v (.int .i64 (kAt b 0 0)), .v (.int .i64 (kAt b (b.length - 1) 0)), .v (.int .i64 0)] ∧ H' = H := ticksOf h (tkOk_mem (drP_ok hb)) (drP_ok hb)
theorem pa0 {l : List (Nat → Int)} {e t : Int} (hv : tkOk l = true) (he : 0 ≤ e ∧ e ≤ 3) (ht : 0 ≤ t ∧ t ≤ 200) : paC l e (inB 0 200 t) = 0 := by
  unfold paC
  rw [if_pos hv, if_pos]
  rw [Bool.and_eq_true, inB_iff, inB_iff]; exact ⟨he, ht⟩
theorem paT {l : List (Nat → Int)} {e : Int} (hv : tkOk l = true) (he : 0 ≤ e ∧ e ≤ 3) : paC l e true = 0 := by
  unfold paC
  rw [if_pos hv, if_pos]
  rw [Bool.and_eq_true, inB_iff]; exact ⟨he, rfl⟩
theorem tk_small {l : List (Nat → Int)} (hv : tkOk l = true) : l.length ≤ 1000000 := by have := tkOk_len hv; omega
theorem placeI {H : List Blk} {v : V} {l : List (Nat → Int)} {e t : Int} (h : Rd H v encK l) (hv : tkOk l = true) (he : 0 ≤ e ∧ e ≤ 3) (ht : 0 ≤ t ∧ t ≤ 200) :
    Cal Tryz.prog 20 [v, .v (.int .i64 e), .v (.int .i64 t)] H fun u H' => u = .t [.v (.int .i64 (placeR l e t 1)), .v (.int .i64 (placeR l e t 2)), .v (.int .i64 0)] ∧ H' = H := by
  have := implPlaceAt (e := e) (tick := t) h (tkOk_mem hv) (tk_small hv)
  rw [pa0 hv he ht, if_pos rfl, if_pos rfl] at this
  exact this
theorem placeS {H : List Blk} {v : V} {l : List (Nat → Int)} {e t : Int} (h : Rd H v encK l) (hv : tkOk l = true) (he : 0 ≤ e ∧ e ≤ 3) (ht : 0 ≤ t ∧ t ≤ 200) :
    Cal Tryz.prog 21 [v, .v (.int .i64 e), .v (.int .i64 t)] H fun u H' => u = .t [.v (.int .i64 (placeR l e t 1)), .v (.int .i64 (placeR l e t 2)), .v (.int .i64 0)] ∧ H' = H := by
  have := specPlaceAt (e := e) (tick := t) h (tkOk_mem hv) (tk_small hv)
  rw [pa0 hv he ht, if_pos rfl, if_pos rfl] at this
  exact this
theorem keyI {H : List Blk} {v : V} {l : List (Nat → Int)} {e t : Int} {j : Nat} {f : Nat → Int} (h : Rd H v encK l) (hv : tkOk l = true) (he : 0 ≤ e ∧ e ≤ 3) (hj : j < l.length) (hf : kAt l j = f) (ht : t = f 0) :
    Cal Tryz.prog 20 [v, .v (.int .i64 e), .v (.int .i64 t)] H fun u H' => u = .t [.v (.int .i64 (f 1)), .v (.int .i64 (f 2)), .v (.int .i64 0)] ∧ H' = H := by
  subst hf; subst ht
  have hk := okK_iff.1 (tkOk_at hv hj).1
  rw [← kAt_at hj] at hk
  have := placeI (t := kAt l j 0) h hv he hk.1
  rwa [place_key hv hj, place_key hv hj] at this
theorem spI {H : List Blk} {v : V} {l : List (Nat → Int)} {e : Int} (h : Rd H v encK l) (hv : tkOk l = true) (he : 0 ≤ e ∧ e ≤ 3) :
    Cal Tryz.prog 14 [v, .v (.int .i64 e)] H fun u H' => u = .t [.s H.length 0 (spL l e (tkN l)).length (.u 0), .v (.int .i64 0)] ∧ H' = H ++ [⟨(spL l e (tkN l)).flatMap i64C, 2, .own 1⟩] := implSpeedsOf_okF h (tkOk_mem hv) (tk_small hv) (paT hv he)
theorem spS {H : List Blk} {v : V} {l : List (Nat → Int)} {e : Int} (h : Rd H v encK l) (hv : tkOk l = true) (he : 0 ≤ e ∧ e ≤ 3) :
    Cal Tryz.prog 15 [v, .v (.int .i64 e)] H fun u H' => u = .t [.s H.length 0 (spL l e (tkN l)).length (.u 0), .v (.int .i64 0)] ∧ H' = H ++ [⟨(spL l e (tkN l)).flatMap i64C, 2, .own 1⟩] := specSpeedsOf_okF h (tkOk_mem hv) (tk_small hv) (paT hv he)
theorem spd_max (l : List (Nat → Int)) (e : Int) (j : Nat) : spd l e j = max (placeR l e (kAt l 0 0 + 1 + j) 1 - placeR l e (kAt l 0 0 + j) 1) (placeR l e (kAt l 0 0 + j) 1 - placeR l e (kAt l 0 0 + 1 + j) 1) + max (placeR l e (kAt l 0 0 + 1 + j) 2 - placeR l e (kAt l 0 0 + j) 2) (placeR l e (kAt l 0 0 + j) 2 - placeR l e (kAt l 0 0 + 1 + j) 2) := by
  unfold spd sizeR
  omega
theorem spd_nn (l : List (Nat → Int)) (e : Int) (j : Nat) : 0 ≤ spd l e j := by rw [spd_max]; omega
theorem spL_at {l : List (Nat → Int)} {e : Int} {n j : Nat} (h : j < n) : nth0 (spL l e n) j = spd l e j := by
  unfold nth0 spL
  rw [List.getElem?_map, List.getElem?_range h]; rfl
theorem spL_nn (l : List (Nat → Int)) (e : Int) (n j : Nat) : 0 ≤ nth0 (spL l e n) j := by
  rcases Nat.lt_or_ge j n with h | h
  · rw [spL_at h]; exact spd_nn l e j
  · unfold nth0
    rw [List.getElem?_eq_none (by rw [spL_len]; exact h)]
    exact Int.le_refl _
/-- The fastest tick's speed is the greatest of all. -/
theorem ft_top {l : List (Nat → Int)} {e : Int} (hv : tkOk l = true) (he : 0 ≤ e ∧ e ≤ 3) : ftC l e = (if tkN l = 0 then 6 else 0) ∧ (tkN l ≠ 0 → ftM l e = hiT (spL l e (tkN l)) (tkN l)) := by
  have hc : ftC l e = (if tkN l = 0 then 6 else 0) := by unfold ftC; rw [if_pos (paT hv he)]
  refine ⟨hc, fun h0 => ?_⟩
  unfold ftM
  rw [hc, if_neg h0, if_pos rfl, ← hiT_mx (spL_nn l e _), show tkN l - 1 + 1 = tkN l by omega]
theorem ftI {H : List Blk} {v : V} {l : List (Nat → Int)} {e : Int} (h : Rd H v encK l) (hv : tkOk l = true) :
    Cal Tryz.prog 22 [v, .v (.int .i64 e)] H fun u H' => u = .t [.v (.int .i64 (ftT l e)), .v (.int .i64 (ftM l e)), .v (.int .i64 (ftC l e))] ∧ H' = H := implFastestTick h (tkOk_mem hv) (tk_small hv)
theorem ftS {H : List Blk} {v : V} {l : List (Nat → Int)} {e : Int} (h : Rd H v encK l) (hv : tkOk l = true) :
    Cal Tryz.prog 23 [v, .v (.int .i64 e)] H fun u H' => u = .t [.v (.int .i64 (ftT l e)), .v (.int .i64 (ftM l e)), .v (.int .i64 (ftC l e))] ∧ H' = H := specFastestTick h (tkOk_mem hv) (tk_small hv)
theorem shI {H : List Blk} {v : V} {b : List (Nat → Int)} {e : Int} (h : Rd H v encK b) (hb : DrP b) (he : -4 ≤ e ∧ e ≤ 4) :
    Cal Tryz.prog 24 [v, .v (.int .i64 2), .v (.int .i64 e), .v (.int .i64 1)] H fun u H' => u = .t [.s H.length 0 (shL b 2 e 1).length (.u 0), .v (.int .i64 0)] ∧ H' = H ++ [⟨(shL b 2 e 1).flatMap encK, 42, .own 3⟩] := implShiftTrack_ok h (tkOk_mem (drP_ok hb)) (tk_small (drP_ok hb)) (sh_ok hb he)
theorem shS {H : List Blk} {v : V} {b : List (Nat → Int)} {e : Int} (h : Rd H v encK b) (hb : DrP b) (he : -4 ≤ e ∧ e ≤ 4) :
    Cal Tryz.prog 25 [v, .v (.int .i64 2), .v (.int .i64 e), .v (.int .i64 1)] H fun u H' => u = .t [.s H.length 0 (shL b 2 e 1).length (.u 0), .v (.int .i64 0)] ∧ H' = H ++ [⟨(shL b 2 e 1).flatMap encK, 42, .own 3⟩] := specShiftTrack_ok h (tkOk_mem (drP_ok hb)) (tk_small (drP_ok hb)) (sh_ok hb he)
theorem homeI {H : List Blk} {v : V} {b : List (Nat → Int)} {e m : Int} (h : Rd H v encK (shL b 2 e 1)) (hb : DrP b) (hN : b.map mdK = b) (he : -4 ≤ e ∧ e ≤ 4) (hm : m = -e) :
    Cal Tryz.prog 24 [v, .v (.int .i64 (-2)), .v (.int .i64 m), .v (.int .i64 (-1))] H fun u H' => u = .t [.s H.length 0 b.length (.u 0), .v (.int .i64 0)] ∧ H' = H ++ [⟨b.flatMap encK, 42, .own 3⟩] := by
  subst hm
  have hs := (shC_ok (sh_ok hb he)).2.2
  have hh := sh_home hb hN he
  have := implShiftTrack_ok h (tkOk_mem hs) (tk_small hs) hh.1
  rwa [hh.2] at this
theorem joI {H : List Blk} {v w : V} {b : List (Nat → Int)} (h : Rd H v encK b) (h2 : Rd H w encK (bkL b)) (hb : DrP b) :
    Cal Tryz.prog 26 [v, w] H fun u H' => u = .t [.s H.length 0 (jnL b (bkL b)).length (.i 0), .v (.int .i64 0)] ∧ H' = H ++ [⟨(jnL b (bkL b)).flatMap encK, 42, .own 3⟩] :=
  implJoinTracks_ok h h2 (tkOk_mem (drP_ok hb)) (tkOk_mem (drP_ok (bk_drP hb))) (tk_small (drP_ok hb)) (tk_small (drP_ok (bk_drP hb))) (jn_ok hb).1
theorem joS {H : List Blk} {v w : V} {b : List (Nat → Int)} (h : Rd H v encK b) (h2 : Rd H w encK (bkL b)) (hb : DrP b) :
    Cal Tryz.prog 27 [v, w] H fun u H' => u = .t [.s H.length 0 (jnL b (bkL b)).length (.u 0), .v (.int .i64 0)] ∧ H' = H ++ [⟨(jnL b (bkL b)).flatMap encK, 42, .own 3⟩] :=
  specJoinTracks_ok h h2 (tkOk_mem (drP_ok hb)) (tkOk_mem (drP_ok (bk_drP hb))) (tk_small (drP_ok hb)) (tk_small (drP_ok (bk_drP hb))) (jn_ok hb).1
theorem arI {H : List Blk} {v : V} {b : List (Nat → Int)} (h : Rd H v encK b) (hb : DrP b) (hN : b.map mdK = b) :
    Cal Tryz.prog 28 [v, .v (.int .i64 3)] H fun u H' => u = .t [.s H.length 0 (arL b 3).length (.u 0), .v (.int .i64 0)] ∧ H' = H ++ [⟨(arL b 3).flatMap encK, 42, .own 3⟩] := implArcTrack_ok h (tkOk_mem (drP_ok hb)) (tk_small (drP_ok hb)) (ar_ok hb hN).1
theorem arS_ {H : List Blk} {v : V} {b : List (Nat → Int)} (h : Rd H v encK b) (hb : DrP b) (hN : b.map mdK = b) :
    Cal Tryz.prog 29 [v, .v (.int .i64 3)] H fun u H' => u = .t [.s H.length 0 (arL b 3).length (.u 0), .v (.int .i64 0)] ∧ H' = H ++ [⟨(arL b 3).flatMap encK, 42, .own 3⟩] := specArcTrack_ok h (tkOk_mem (drP_ok hb)) (tk_small (drP_ok hb)) (ar_ok hb hN).1
end Go.Proofs.YtcebmjajnbafoaaGreatDoor
namespace Go.Proofs.YtcebmjajnbafoaaGreatDoor
open Go Go.RowKit Go.Shelf Go.Proofs
attribute [local go_sem] Oper.semAt_some
/-- What has come when k rounds are over. -/
def upto {α : Type} (f : Nat → α) (k : Nat) : List α := (List.range k).map f
theorem upto_succ {α : Type} (f : Nat → α) (k : Nat) : upto f (k + 1) = upto f k ++ [f k] := by simp [upto, List.range_succ]
theorem upto_length {α : Type} (f : Nat → α) (k : Nat) : (upto f k).length = k := by simp [upto]
/-- A key as the machine's value. -/
def keyV (a : Nat → Int) : Value := .agg #[.int .i16 (a 0), .int .i8 (a 1), .int .i8 (a 2)]
set_option maxRecDepth 100000 in
set_option maxHeartbeats 2000000 in
/-- The closure of slices.Backward, for every body that keeps the row and its box. -/
theorem back1 (n : Nat) (hn : 1 ≤ n) (l Bs b off len cap : Nat) (f : Nat → Nat → Int) (hreach : len * 8 ≤ 140737488351232) (K : World → World → Prop) (hKr : ∀ W, K W W) (hKt : ∀ {A B C}, K A B → K B C → K A C) (hKb : ∀ {A B}, K A B → ∀ o, B.cell? ⟨b, o, none⟩ = A.cell? ⟨b, o, none⟩) (hKs : ∀ {A B}, K A B → B.cell? ⟨Bs, 0, none⟩ = A.cell? ⟨Bs, 0, none⟩) (J Jx : List Nat → World → Prop)
    (hY : ∀ pre (x : Nat) W, J pre W → pre.length < len → YieldAt Fence.wide (n - 1) Tryz.prog l #[.int .i64 x, keyV (f x)] W fun e W' =>
      (e = .returned (.bool true) ∧ J (pre ++ [x]) W' ∧ K W W') ∨ (e = .returned (.bool false) ∧ Jx (pre ++ [x]) W'))
    (W : World) (hBs : W.cell? ⟨Bs, 0, none⟩ = some (.slice (some ⟨b, off, none⟩) len cap))
    (hc0 : ∀ j, j < len → W.cell? ⟨b, off + j * 3, none⟩ = some (.int .i16 (f j 0))) (hc1 : ∀ j, j < len → W.cell? ⟨b, off + (j * 3 + 1), none⟩ = some (.int .i8 (f j 1))) (hc2 : ∀ j, j < len → W.cell? ⟨b, off + (j * 3 + 2), none⟩ = some (.int .i8 (f j 2)))
    (h0 : J [] W) :
    CallsIn Fence.wide n Tryz.prog 78 #[.func (.yield l) #[] #[], .pointer (some ⟨Bs, 0, none⟩)] W fun e W' => (∃ v, e = .returned v) ∧
      ((∃ ys, ys = upto (fun j => len - 1 - j) len ∧ J ys W') ∨ (∃ pre, (∃ k, k ≤ len ∧ pre = upto (fun j => len - 1 - j) k) ∧ Jx pre W')) := by
  refine callsIn_of_wp Tryz.func78 rfl trivial ?_ rfl
  simp only [Tryz.ntmps78, List.size_toArray, List.length_cons, List.length_nil, Nat.reduceAdd, Nat.reduceSub, Array.replicate_succ, Array.replicate_zero, List.push_toArray, List.append_toArray, List.nil_append, List.cons_append]
  gi_wp2
  gi_loopw [3] (fun i wr => ∃ k : Nat, k ≤ len ∧ i = .int .i64 ((len : Int) - 1 - k) ∧ J (upto (fun j => len - 1 - j) k) wr ∧ K W wr)
    (fun i _ => (intOf i + 1).toNat)
  case atStart => exact ⟨0, Nat.zero_le _, by simp, h0, hKr _⟩
  case round =>
    obtain ⟨k, hk, rfl, hJs, hnx⟩ := hrel
    by_cases hlt : k < len
    · obtain ⟨fn, tmps, assign, body, hy, hR⟩ := hY _ (len - 1 - k) wr hJs (by rw [upto_length]; exact hlt)
      unfold keyV at hy
      have hBs' := (hKs hnx).trans hBs
      have hik : ((len : Int) - 1 - k) = ((len - 1 - k : Nat) : Int) := by omega
      rw [hik]
      have d0 := (hKb hnx (off + (len - 1 - k) * 3)).trans (hc0 (len - 1 - k) (by omega))
      have d1 := (hKb hnx (off + ((len - 1 - k) * 3 + 1))).trans (hc1 (len - 1 - k) (by omega))
      have d2 := (hKb hnx (off + ((len - 1 - k) * 3 + 2))).trans (hc2 (len - 1 - k) (by omega))
      gi_wp2
      refine hR.mono ?_
      rintro e W3 (⟨rfl, hJ3, hk3⟩ | ⟨rfl, hJx3⟩)
      · gi_wp2
        go_roundw
        case rel => exact ⟨k + 1, by omega, by first | (simp; done) | (simp; omega), by rw [upto_succ]; exact hJ3, hKt hnx hk3⟩
        case measure => first | (simp [intOf]; done) | (simp [intOf]; omega)
      · gi_wp2
        refine bodyPost_ret (results_none rfl _ _ _) rfl ?_
        exact ⟨⟨_, rfl⟩, .inr ⟨_, ⟨k + 1, by omega, (upto_succ _ _).symm⟩, hJx3⟩⟩
    · obtain rfl : k = len := by omega
      gi_wp2
      go_end0
      exact ⟨⟨_, rfl⟩, .inl ⟨_, rfl, hJs⟩⟩
/-- What slices.Backward's closure gives, for a body that keeps the row and its box. -/
theorem back_stops (n : Nat) (hn : 1 ≤ n) (Bs b off len cap : Nat) (f : Nat → Nat → Int) (hreach : len * 8 ≤ 140737488351232) (K : World → World → Prop) (hKr : ∀ W, K W W) (hKt : ∀ {A B C}, K A B → K B C → K A C) (hKb : ∀ {A B}, K A B → ∀ o, B.cell? ⟨b, o, none⟩ = A.cell? ⟨b, o, none⟩) (hKs : ∀ {A B}, K A B → B.cell? ⟨Bs, 0, none⟩ = A.cell? ⟨Bs, 0, none⟩)
    (w : World) (hBs : Bs < w.heap.size) (hb : b < w.heap.size) (hc : w.cell? ⟨Bs, 0, none⟩ = some (.slice (some ⟨b, off, none⟩) len cap))
    (hc0 : ∀ j, j < len → w.cell? ⟨b, off + j * 3, none⟩ = some (.int .i16 (f j 0))) (hc1 : ∀ j, j < len → w.cell? ⟨b, off + (j * 3 + 1), none⟩ = some (.int .i8 (f j 1))) (hc2 : ∀ j, j < len → w.cell? ⟨b, off + (j * 3 + 2), none⟩ = some (.int .i8 (f j 2))) :
    SeqStopsK Fence.wide n Tryz.prog 78 #[.pointer (some ⟨Bs, 0, none⟩)] (fun x : Nat => #[Value.int .i64 x, keyV (f x)]) K (fun ys => ys = upto (fun j => len - 1 - j) len) (fun pre => ∃ k, k ≤ len ∧ pre = upto (fun j => len - 1 - j) k) len w := fun l J Jx W hW _ _ hY h0 =>
  back1 n hn l Bs b off len cap f hreach K hKr hKt hKb hKs J Jx hY W ((hW.cell (p := ⟨Bs, 0, none⟩) hBs).trans hc)
    (fun j hj => (hW.cell (p := ⟨b, off + j * 3, none⟩) hb).trans (hc0 j hj)) (fun j hj => (hW.cell (p := ⟨b, off + (j * 3 + 1), none⟩) hb).trans (hc1 j hj)) (fun j hj => (hW.cell (p := ⟨b, off + (j * 3 + 2), none⟩) hb).trans (hc2 j hj)) h0
end Go.Proofs.YtcebmjajnbafoaaGreatDoor
namespace Go.Proofs.YtcebmjajnbafoaaGreatDoor
open Go Go.RowKit Go.Shelf Go.Proofs Go.Sx
/-- A contract whose answer is one value, on the kit's level. -/
theorem calls_val {P : Program} {f : FuncId} {args : List V} {H : List Blk} {σ : Nat → Go.Sx.Loc} {w : World} {R : V → List Blk → Prop} {u : V} {z : Value} (hc : Cal P f args H R) (hR : ∀ v H', R v H' → v = u) (hu : ∀ σ, conc σ u = z) (hrel : HRel σ H w) (hl : lts H.length args)
    (hro : ∀ b ∈ H, b.k.mut = false) {vs : Array Value} (hv : vs = (concs σ args).toArray) : Calls P f vs w fun e w' => e = .returned z ∧ Below w.heap.size w w' := by
  subst hv
  refine (hc.2 σ w hrel hl).mono ?_
  rintro e w' ⟨v, H', σ', r, rfl, _, _, _, _, fr, _⟩
  rw [hR _ _ r, hu]
  refine ⟨rfl, ⟨fr.os, fr.tape, fr.output, fr.size, fun k hk => fr.block k hk fun i b hb hm => ?_⟩⟩
  rw [hro b (List.mem_of_getElem? hb)] at hm
  cases hm
theorem keyAtIn {n : Nat} {t x y : Int} {w : World} (ht : -32768 ≤ t ∧ t ≤ 32767) (hx0 : -128 ≤ x ∧ x ≤ 127) (hy : -128 ≤ y ∧ y ≤ 127) :
    CallsIn Fence.wide n Tryz.prog 36 #[.int .i64 t, .int .i64 x, .int .i64 y] w fun e W' => e = .returned (keyV (keyF t x y)) ∧ Below w.heap.size w W' :=
  callsIn_wide.2 (calls_val (σ := fun _ => ⟨0, 0, 0⟩) (keyAt (H := []) ht hx0 hy) (fun _ _ h => h.1) (fun _ => by simp [conc, concs, encK, keyV]) (HRel_nil _ _) (by simp [go_sem]) (fun b hb => by cases hb) (by simp [concs, conc]))
end Go.Proofs.YtcebmjajnbafoaaGreatDoor
namespace Go.Proofs.YtcebmjajnbafoaaGreatDoor
open Go Go.RowKit Go.Shelf Go.Proofs
/- A region that draws its order, within a round: by the laws for a region outside of one. -/
theorem operIn_of {l n : Nat} {P : Program} {o : Oper} {a : Act} {w : World} {K : Act → World → Prop} {Q : Exit → Act → World → Prop} (hd : ∀ c, o.op ≠ .defer c) (h : o.wp P a w K Q) : o.wpIn (Fence.wide.inRound l) n P a w K Q := by
  unfold Oper.wpIn
  refine ⟨fun _ _ => trivial, ?_⟩
  rw [Oper.semAt_eq _ _ _ hd]
  unfold Oper.wp at h
  generalize (execOp a.eval o).run P w = r at h ⊢
  have hD : (Fence.wide.inRound l).depth.isSome = true → 1 ≤ n := fun hh => by cases hh
  cases r with
  | ok nx w' =>
    cases nx with
    | value v => exact h
    | skip => exact h
    | defer d => exact h
    | enter f args => exact ⟨hD, CallsIn.inRound l (callsIn_wide.2 h)⟩
    | row r args => exact ⟨hD, fun c cs _ => let ⟨v, w', r, s⟩ := h c cs; ⟨v, w', r, stepsIn_wide.2 s⟩⟩
    | round => exact h.elim
    | _ => exact h.elim
  | halt hh w' =>
    cases hh with
    | panic v => exact h
    | _ => exact h.elim
theorem opIn_of {l n : Nat} {P : Program} {ops : Array Oper} {Q : Exit → Act → World → Prop} {K : Act → World → Prop} {a : Act} {w : World} {i : Nat} (hd : ∀ (j : Nat) (o : Oper) c, ops[j]? = some o → o.op ≠ .defer c) (hQ : LetsOut Q → False) (h : wpOp P ops Q i K a w) : wpOpIn (Fence.wide.inRound l) n P ops Q i K a w := by
  unfold wpOp at h
  unfold wpOpIn
  cases ho : ops[i]? with
  | none => rw [ho] at h; exact h
  | some o =>
    rw [ho] at h
    dsimp only at h ⊢
    split
    · rename_i hw
      rw [if_pos hw] at h
      rcases h with h | h
      · exact operIn_of (fun c => hd i o c ho) h
      · exact (hQ h.2).elim
    · rename_i hw
      rw [if_neg hw] at h
      exact ⟨fun _ _ => trivial, h⟩
theorem anyIn_of {l n : Nat} {P : Program} {md : Region.Mode} {ops : Array Oper} {Q : Exit → Act → World → Prop} (hd : ∀ (j : Nat) (o : Oper) c, ops[j]? = some o → o.op ≠ .defer c) (hQ : LetsOut Q → False) : ∀ (fuel : Nat) (listed : Array Bool) (a : Act) (w : World), wpAny P md ops Q fuel listed a w → wpAnyIn (Fence.wide.inRound l) n P md ops Q fuel listed a w
  | 0, _, _, _, h => h
  | fuel + 1, listed, a, w, h => ⟨h.1, fun i hi => opIn_of hd hQ (wpOp_mono (fun a' w' h' => anyIn_of hd hQ fuel _ a' w' h') (h.2 i hi))⟩
/-- Whatever order is picked: and S holds of the world as long as number q has not come up. -/
def wpAnyG (P : Program) (md : Region.Mode) (ops : Array Oper) (Q : Exit → Act → World → Prop) (S : World → Prop) (q : Nat) : Nat → Array Bool → Act → World → Prop
  | 0, listed, a, w => Region.ready md ops listed = [] ∧ Q .normal a w
  | fuel + 1, listed, a, w =>
    (Region.ready md ops listed = [] → Q .normal a w) ∧
    ∀ i ∈ Region.ready md ops listed, wpOp P ops Q i (fun a' w' => ((listed.setIfInBounds i true).getD q true = false → S w') ∧ wpAnyG P md ops Q S q fuel (listed.setIfInBounds i true) a' w') a w
/-- Number j waits for number i. -/
def waitsB (md : Region.Mode) (ops : Array Oper) (j i : Nat) : Bool := ((ops[j]?.map fun o => o.after.any fun e => Region.binds md e && e.on == i)).getD false
theorem waitsB_spec {md : Region.Mode} {ops : Array Oper} {j i : Nat} (h : waitsB md ops j i = true) : ∃ oj, ops[j]? = some oj ∧ ∃ e ∈ oj.after, Region.binds md e = true ∧ e.on = i := by
  unfold waitsB at h
  cases ho : ops[j]? with
  | none => rw [ho] at h; cases h
  | some oj =>
    rw [ho] at h
    simp only [Option.map_some, Option.getD_some] at h
    obtain ⟨e, he, hb⟩ := Array.any_eq_true'.1 h
    simp only [Bool.and_eq_true, beq_iff_eq] at hb
    exact ⟨oj, rfl, e, he, hb.1, hb.2⟩
section
variable {P : Program} {ops : Array Oper} {Q : Exit → Act → World → Prop} {md : Region.Mode} {S : World → Prop} {q : Nat}
theorem any_ofG : ∀ (fuel : Nat) (listed : Array Bool) (a : Act) (w : World), wpAnyG P md ops Q S q fuel listed a w → wpAny P md ops Q fuel listed a w
  | 0, _, _, _, h => h
  | fuel + 1, _, _, _, h => ⟨h.1, fun i hi => wpOp_mono (fun a' w' h' => any_ofG fuel _ a' w' h'.2) (h.2 i hi)⟩
theorem wpAnyG_first {i : Nat} {oi : Oper} {v : Value} (hi : ops[i]? = some oi) (hsel : ∀ (j : Nat) (o : Oper) cs b, ops[j]? = some o → o.op ≠ .select cs b)
    (hq : ∃ oq, ops[q]? = some oq ∧ ∃ e ∈ oq.after, Region.binds md e = true ∧ e.on = i) (hQ : ∀ c a w, Q (.panic c) (a.put oi.dst v) w → Q (.panic c) a w) :
    ∀ (fuel : Nat) (listed : Array Bool) (a : Act) (w : World),
      (∀ j oj, ops[j]? = some oj → j ≠ i → listed.getD j true = false → (∀ e ∈ oj.after, Region.binds md e = true → e.on ≠ i) → oi.apart ops oj = true) →
      i ∈ Region.ready md ops listed → YieldsIf P ops S oi v a → S w → listed.getD q true = false → q ≠ i →
      wpAnyG P md ops Q S q fuel (listed.setIfInBounds i true) (a.put oi.dst v) w → wpAnyG P md ops Q S q (fuel + 1) listed a w := by
  intro fuel
  induction fuel with
  | zero =>
    intro listed a w _ hr hy hS _ _ H
    refine ⟨fun h => (by rw [h] at hr; cases hr), fun j hj => ?_⟩
    by_cases hji : j = i
    · subst hji; exact hy.wpOp hi hS ⟨fun _ => hS, H⟩
    · have := ready_mono hj hji
      rw [H.1] at this
      cases this
  | succ fuel ih =>
    intro listed a w hfree hr hy hS h16 hqi H
    refine ⟨fun h => (by rw [h] at hr; cases hr), fun j hj => ?_⟩
    by_cases hji : j = i
    · subst hji; exact hy.wpOp hi hS ⟨fun _ => hS, H⟩
    · have h1 := H.2 j (ready_mono hj hji)
      obtain ⟨hjun, oj, hoj, hall⟩ := mem_ready.1 hj
      have hnot : ∀ e ∈ oj.after, Region.binds md e = true → e.on ≠ i := fun e he hb heq => by
        have h1 := hall e he hb
        have h0 := (mem_ready.1 hr).1
        rw [heq] at h1
        rcases Nat.lt_or_ge i listed.size with h' | h'
        · simp [h'] at h0 h1; rw [h0] at h1; cases h1
        · simp [Array.getElem?_eq_none h'] at h1
      have hjq : j ≠ q := fun e => by
        subst e
        obtain ⟨oq, hoq, ee, hee, hb, heq⟩ := hq
        rw [hoq] at hoj
        cases hoj
        exact hnot ee hee hb heq
      have h2 := wpOp_putIf hoj (hfree j oj hoj hji hjun hnot) (fun cs b => hsel i oi cs b hi) (fun cs b => hsel j oj cs b hoj) hQ hy h1
      have hfree' : ∀ k ok, ops[k]? = some ok → k ≠ i → (listed.setIfInBounds j true).getD k true = false →
          (∀ e ∈ ok.after, Region.binds md e = true → e.on ≠ i) → oi.apart ops ok = true := fun k ok hk hki hun hno => by
        refine hfree k ok hk hki ?_ hno
        by_cases hjk : j = k
        · subst hjk; exact hjun
        · rw [getD_set_ne true hjk] at hun; exact hun
      have h16' : (listed.setIfInBounds j true).getD q true = false := by rw [getD_set_ne true hjq]; exact h16
      have h16'' : ((listed.setIfInBounds i true).setIfInBounds j true).getD q true = false := by rw [getD_set_ne true hjq, getD_set_ne true (Ne.symm hqi)]; exact h16
      refine wpOp_mono (fun a' w' h3 => ⟨fun _ => h3.2.1 h16'', ih (listed.setIfInBounds j true) a' w' hfree' (ready_mono hr (Ne.symm hji)) h3.1 (h3.2.1 h16'') h16' hqi ?_⟩) h2
      rw [Array.setIfInBounds_comm _ _ hji]
      exact h3.2.2
/-- One operation first, and what stands in the slots then. -/
theorem takeG {i : Nat} {oi : Oper} {v : Value} {fuel : Nat} {listed : Array Bool} {a : Act} {w : World} (a' : Act) (hi : ops[i]? = some oi)
    (hs : Region.noSelect ops = true) (hf : Region.free md ops listed i = true) (hr : (Region.ready md ops listed).contains i = true) (hq : (waitsB md ops q i && !(listed.getD q true) && !(q == i)) = true)
    (hQ : ∀ c a w, Q (.panic c) (a.put oi.dst v) w → Q (.panic c) a w) (hw : Region.wanted oi (yielded ops a.tmps) = true) (hS : S w) (ha : a.put oi.dst v = a') (hy : ∀ w, S w → (execOp a.eval oi).run P w = .ok (.value v) w)
    (h : wpAnyG P md ops Q S q fuel (listed.setIfInBounds i true) a' w) : wpAnyG P md ops Q S q (fuel + 1) listed a w := by
  simp only [Bool.and_eq_true, Bool.not_eq_true', beq_eq_false_iff_ne] at hq
  exact wpAnyG_first hi (Region.noSelect_spec hs) (waitsB_spec hq.1.1) hQ fuel listed a w (Region.free_spec hi hf) (by simpa using hr) (.inl ⟨hw, hy⟩) hS hq.1.2 hq.2 (by rw [ha]; exact h)
/-- The one that may come up. -/
theorem oneG {i : Nat} {o : Oper} {fuel : Nat} {listed : Array Bool} {a : Act} {w : World} (hi : ops[i]? = some o) (hr : Region.ready md ops listed = [i]) (hw : Region.wanted o (yielded ops a.tmps) = true)
    (h : o.wp P a w (fun a' w' => ((listed.setIfInBounds i true).getD q true = false → S w') ∧ wpAnyG P md ops Q S q fuel (listed.setIfInBounds i true) a' w') Q) : wpAnyG P md ops Q S q (fuel + 1) listed a w := by
  refine ⟨fun h0 => (by rw [hr] at h0; cases h0), fun j hj => ?_⟩
  rw [hr] at hj
  obtain rfl := List.mem_singleton.1 hj
  unfold wpOp
  rw [hi]
  dsimp only
  rw [if_pos hw]
  exact .inl h
theorem doneG {listed : Array Bool} {a : Act} {w : World} (hr : Region.ready md ops listed = []) (h : Q .normal a w) : ∀ fuel, wpAnyG P md ops Q S q fuel listed a w
  | 0 => ⟨hr, h⟩
  | _ + 1 => ⟨fun _ => h, by rw [hr]; simp⟩
theorem wp_append_own {o : Oper} {a : Act} {w : World} {K : Act → World → Prop} (s x : Operand) (t : TypeId) (hop : o.op = Op.call { callee := Callee.builtin Builtin.append, args := #[s, x], argTypes := #[t, t] })
    (base : Nat) (e : TypeId) (i : TypeInfo) (z : Value) (size bytes : Nat) (h1 : P.underlying t = some (.slice e)) (h2 : P.info? e = some i) (h3 : i.zero = some z) (h4 : i.size = size) (h5 : i.bytes = bytes) (h6 : z.cells.size = size) (h7 : 0 < size)
    (v : Value) (k : Nat) (xs : List Value) (hs : a.eval s = v) (hown : w.ownsRow base e size v k xs) (ad : Addr) (m c : Nat) (news : List Value) (hx : a.eval x = .slice (some ad) m c) (hn : news.length = m * size)
    (hc : ∀ j u, news[j]? = some u → w.cell? (ad.add j) = some u) (h1c : ∀ u ∈ news, u.oneCell' = true) (b1 : k + m ≤ maxLen) (b2 : (k + m) * bytes ≤ 140737488355328) (b3 : base ≤ w.heap.size)
    (hK : ∀ v' w', w'.ownsRow base e size v' (k + m) (xs ++ news) → w.grownBy w' v.ownBlock → K (a.put o.dst v') w') : o.wp P a w K Q := by
  obtain ⟨v', w', hrun, r1, r2, r3⟩ := run_append_own (P := P) w base t o.type e i z size bytes h1 h2 h3 h4 h5 h6 h7 v k xs hown ad m c news hn hc h1c b1 b2 b3
  unfold Oper.wp
  simp [execOp, hop, resolve, invoke, builtin, hs, hx, hrun, Result.andThen]
  exact hK _ _ r1 r2
end
/-- A region of a round that draws its order. -/
theorem regionIn_G {l n : Nat} {P : Program} {id : Nat} {ops : Array Oper} {Q : Exit → Act → World → Prop} {S : World → Prop} (q : Nat) {a : Act} {w : World} (hm : P.follows .mixedOrders = true) (hd : ∀ (j : Nat) (o : Oper) c, ops[j]? = some o → o.op ≠ .defer c) (hQ : LetsOut Q → False)
    (h : wpAnyG P .any ops Q S q ops.size (Array.replicate ops.size false) a { w with drawn := w.drawn + 1 }) : (Code.region id ops true).wpIn (Fence.wide.inRound l) n P Q a w :=
  wpIn_region_any hm (anyIn_of hd hQ _ _ _ _ (any_ofG _ _ _ _ h))
theorem noDefer {ops : Array Oper} (h : ops.all (fun o => match o.op with | .defer _ => false | _ => true) = true) : ∀ (j : Nat) (o : Oper) c, ops[j]? = some o → o.op ≠ .defer c := fun j o c ho e => by
  rw [Array.all_eq_true] at h
  obtain ⟨hj, rfl⟩ := Array.getElem?_eq_some_iff.1 ho
  have := h j hj
  rw [e] at this
  cases this
end Go.Proofs.YtcebmjajnbafoaaGreatDoor
