/- Written by a program of this session (wip/xp) out of the translation: functions in plain Lean, and proofs that the calls come to these. -/
import Derived.Test.YtfolonajajideaaPAllx0
import Derived.Test.YtfolonajajideaaPAllx2
import Derived.Test.YtfolonajajideaaPAllx3
import Derived.Test.YtfolonajajideaaPAllx6
import Derived.Test.YtfolonajajideaaPAllx13
import Derived.Test.YtfolonajajideaaPAllx19
import Derived.Test.YtfolonajajideaaShort
namespace Go.Proofs.Ytfolonajajideaa.PAll
open Go.RowKit Go.Proofs.YtfolonajajideaaW.PrintWords Go.Proofs.YtfolonajajideaaW.PrintLast Go.Proofs.YtfolonajajideaaW.PrintMore
attribute [local go_sem] max2_int min2_int max_two min_two max_three min_three max_four min_four   -- for this text's walks alone
set_option linter.unusedVariables false
set_option linter.unusedSimpArgs false

/-! ### clinkerlaw08_LiveBound: function 5 -/
mutual
def clinkerlaw08_LiveBound.l0 : Nat → Bool → Int → Int → Int → List Int → List Int → Option (Bool)
 | 0, _, _, _, _, _, _ => none
 | k + 1, x5, x7, x10, x11, x423000, x423001 => if x11 < 32 then ((live_Count.f x423000 x423001 x11).bind fun t423 => (clinkerlaw08_LiveBound.l0 k x5 x7 (wrap64 (x10 + t423)) (wrap64 (x11 + 1)) x423000 x423001)) else (clinkerlaw08_LiveBound.l1 k x5 x7 x10 0 0 x423000 x423001)
def clinkerlaw08_LiveBound.l1 : Nat → Bool → Int → Int → Int → Int → List Int → List Int → Option (Bool)
 | 0, _, _, _, _, _, _, _ => none
 | k + 1, x5, x7, x10, x12, x13, x423000, x423001 => if x13 < 512 then ((live_Live.f k x423000 x423001 x13).bind fun t424 => (if t424 = true then (clinkerlaw08_LiveBound.l1 k x5 x7 x10 (wrap64 (x12 + 1)) (wrap64 (x13 + 1)) x423000 x423001) else (clinkerlaw08_LiveBound.l1 k x5 x7 x10 x12 (wrap64 (x13 + 1)) x423000 x423001))) else (if x5 = true then (if x10 ≤ (wrap64 (2 * x7)) then (some (x10 == x12)) else (some false)) else (some false))
end
def clinkerlaw08_LiveBound.f (k : Nat) (l0 : List Int) (a1 : Int) : Option (Bool) := (clinkerlaw08_awake.f k).bind fun t407 => (if t407 = true then ((clinkerlaw06_Made.f k l0 4 5).bind fun bt408 => ((clinkerref07_Replay.f k bt408.1 bt408.2.1 bt408.2.2.1 bt408.2.2.2 (Int.tmod (wrap64 (a1)) 65)).bind fun bt415 => (clinkerlaw08_LiveBound.l0 k t407 (Int.tmod (wrap64 (a1)) 65) 0 0 bt415.1 bt415.2.1))) else (some false))
theorem clinkerlaw08_LiveBound.mono_l : ∀ k, (∀ y0 y1 y2 y3 y4 y5, LeO (clinkerlaw08_LiveBound.l0 k y0 y1 y2 y3 y4 y5) (clinkerlaw08_LiveBound.l0 (k + 1) y0 y1 y2 y3 y4 y5)) ∧ (∀ y0 y1 y2 y3 y4 y5 y6, LeO (clinkerlaw08_LiveBound.l1 k y0 y1 y2 y3 y4 y5 y6) (clinkerlaw08_LiveBound.l1 (k + 1) y0 y1 y2 y3 y4 y5 y6))
 | 0 => ⟨fun _ _ _ _ _ _ r h => by simp [clinkerlaw08_LiveBound.l0] at h, fun _ _ _ _ _ _ _ r h => by simp [clinkerlaw08_LiveBound.l1] at h⟩
 | k + 1 => by
  obtain ⟨ih0, ih1⟩ := clinkerlaw08_LiveBound.mono_l k
  refine ⟨?_, ?_⟩
  ·
   intro y0 y1 y2 y3 y4 y5
   unfold clinkerlaw08_LiveBound.l0
   repeat' first
   | (with_reducible exact ih0 _ _ _ _ _ _)
   | (with_reducible exact ih1 _ _ _ _ _ _ _)
   | (with_reducible exact clinkerlaw06_Made.mono _ _ _ _)
   | (with_reducible exact clinkerlaw08_awake.mono _)
   | (with_reducible exact clinkerref07_Replay.mono _ _ _ _ _ _)
   | (with_reducible exact live_Live.mono _ _ _ _)
   | (with_reducible exact LeO.refl _)
   | (with_reducible exact LeO.none _)
   | (with_reducible refine LeO.ite ?_ ?_)
   | (with_reducible refine LeO.bind ?_ (fun _ => ?_))
   | exact ih0 _ _ _ _ _ _
   | exact ih1 _ _ _ _ _ _ _
   | exact clinkerlaw06_Made.mono _ _ _ _
   | exact clinkerlaw08_awake.mono _
   | exact clinkerref07_Replay.mono _ _ _ _ _ _
   | exact live_Live.mono _ _ _ _
   | exact LeO.none _
   | refine LeO.ite ?_ ?_
   | refine LeO.bind ?_ (fun _ => ?_)
  ·
   intro y0 y1 y2 y3 y4 y5 y6
   unfold clinkerlaw08_LiveBound.l1
   repeat' first
   | (with_reducible exact ih0 _ _ _ _ _ _)
   | (with_reducible exact ih1 _ _ _ _ _ _ _)
   | (with_reducible exact clinkerlaw06_Made.mono _ _ _ _)
   | (with_reducible exact clinkerlaw08_awake.mono _)
   | (with_reducible exact clinkerref07_Replay.mono _ _ _ _ _ _)
   | (with_reducible exact live_Live.mono _ _ _ _)
   | (with_reducible exact LeO.refl _)
   | (with_reducible exact LeO.none _)
   | (with_reducible refine LeO.ite ?_ ?_)
   | (with_reducible refine LeO.bind ?_ (fun _ => ?_))
   | exact ih0 _ _ _ _ _ _
   | exact ih1 _ _ _ _ _ _ _
   | exact clinkerlaw06_Made.mono _ _ _ _
   | exact clinkerlaw08_awake.mono _
   | exact clinkerref07_Replay.mono _ _ _ _ _ _
   | exact live_Live.mono _ _ _ _
   | exact LeO.none _
   | refine LeO.ite ?_ ?_
   | refine LeO.bind ?_ (fun _ => ?_)
theorem clinkerlaw08_LiveBound.mono : ∀ a0 a1 k, LeO (clinkerlaw08_LiveBound.f k a0 a1) (clinkerlaw08_LiveBound.f (k + 1) a0 a1) := by
 intro a0 a1 k
 obtain ⟨ih0, ih1⟩ := clinkerlaw08_LiveBound.mono_l k
 unfold clinkerlaw08_LiveBound.f
 repeat' first
   | (with_reducible exact ih0 _ _ _ _ _ _)
   | (with_reducible exact ih1 _ _ _ _ _ _ _)
   | (with_reducible exact clinkerlaw06_Made.mono _ _ _ _)
   | (with_reducible exact clinkerlaw08_awake.mono _)
   | (with_reducible exact clinkerref07_Replay.mono _ _ _ _ _ _)
   | (with_reducible exact live_Live.mono _ _ _ _)
   | (with_reducible exact LeO.refl _)
   | (with_reducible exact LeO.none _)
   | (with_reducible refine LeO.ite ?_ ?_)
   | (with_reducible refine LeO.bind ?_ (fun _ => ?_))
   | exact ih0 _ _ _ _ _ _
   | exact ih1 _ _ _ _ _ _ _
   | exact clinkerlaw06_Made.mono _ _ _ _
   | exact clinkerlaw08_awake.mono _
   | exact clinkerref07_Replay.mono _ _ _ _ _ _
   | exact live_Live.mono _ _ _ _
   | exact LeO.none _
   | refine LeO.ite ?_ ?_
   | refine LeO.bind ?_ (fun _ => ?_)
set_option maxHeartbeats 8000000 in
set_option maxRecDepth 100000 in
theorem clinkerlaw08_LiveBound.calls (k : Nat) (A0 : Option Addr) (c0 : Nat) (l0 : List Int) (a1 : Int) (r : Bool) (w : World) (hr0 : Kd.C (Kd.int .u16) w A0 l0.length l0) (hc0 : l0.length ≤ c0) (h : clinkerlaw08_LiveBound.f k l0 a1 = some r) :
  Calls Try.prog 5 #[.slice A0 l0.length c0, .int .u8 a1] w fun e w' => e = .returned (.bool r) ∧ Below w.heap.size w w' := by
 have hu32 := Try.underlying32
 have hu24 := Try.underlying24
 have HR0 := Aside0.mk hr0
 have HC0 := Aside0.mk hc0
 clear hr0 hc0
 have HB := Aside0.mk (Below.refl w.heap.size w)
 have H : ((clinkerlaw08_awake.f k).bind fun t407 => (if t407 = true then ((clinkerlaw06_Made.f k l0 4 5).bind fun bt408 => ((clinkerref07_Replay.f k bt408.1 bt408.2.1 bt408.2.2.1 bt408.2.2.2 (Int.tmod (wrap64 (a1)) 65)).bind fun bt415 => (clinkerlaw08_LiveBound.l0 k t407 (Int.tmod (wrap64 (a1)) 65) 0 0 bt415.1 bt415.2.1))) else (some false))) = some r := h
 clear h
 replace H := Option.bind_eq_some_iff.mp H
 obtain ⟨t407, A30, H⟩ := H
 replace H : (if t407 = true then ((clinkerlaw06_Made.f k l0 4 5).bind fun bt408 => ((clinkerref07_Replay.f k bt408.1 bt408.2.1 bt408.2.2.1 bt408.2.2.2 (Int.tmod (wrap64 (a1)) 65)).bind fun bt415 => (clinkerlaw08_LiveBound.l0 k t407 (Int.tmod (wrap64 (a1)) 65) 0 0 bt415.1 bt415.2.1))) else (some false)) = some r := H
 have A3 := Aside0.mk A30
 clear A30
 by_cases c4 : t407 = true
 ·
  subst c4
  have H1 : ((clinkerlaw06_Made.f k l0 4 5).bind fun bt408 => ((clinkerref07_Replay.f k bt408.1 bt408.2.1 bt408.2.2.1 bt408.2.2.2 (Int.tmod (wrap64 (a1)) 65)).bind fun bt415 => (clinkerlaw08_LiveBound.l0 k true (Int.tmod (wrap64 (a1)) 65) 0 0 bt415.1 bt415.2.1))) = some r := by rw [if_pos rfl] at H; exact H
  clear H
  have H := H1
  clear H1
  replace H := Option.bind_eq_some_iff.mp H
  obtain ⟨⟨t408, t411, t412, t413⟩, A50, H⟩ := H
  replace H : ((clinkerref07_Replay.f k t408 t411 t412 t413 (Int.tmod (wrap64 (a1)) 65)).bind fun bt415 => (clinkerlaw08_LiveBound.l0 k true (Int.tmod (wrap64 (a1)) 65) 0 0 bt415.1 bt415.2.1)) = some r := H
  have A5 := Aside0.mk A50
  clear A50
  replace H := Option.bind_eq_some_iff.mp H
  obtain ⟨⟨t415, t418, t421⟩, A60, H⟩ := H
  replace H : (clinkerlaw08_LiveBound.l0 k true (Int.tmod (wrap64 (a1)) 65) 0 0 t415 t418) = some r := H
  have A6 := Aside0.mk A60
  clear A60
  have H' := Aside0.mk H
  clear H
  go_enter Try.func5, Try.ntmps5
  go_wp2_with (first | ((with_reducible refine gate_callee (f := 9) rfl ?_); refine goesL_ (some 14) rfl rfl Try.func9 (by kernel_rfl) rfl #[] rfl (by (try simp only [List.map_toArray, List.map_cons, List.map_nil]); first | done | rfl | (simp only [List.length_drop, List.length_take]; rfl)) ?_; (with_reducible refine (clinkerlaw08_awake.calls k  true _ A3.out).mono ?_); rintro e w7 ⟨rfl, hb⟩; refine ⟨_, rfl, ?_⟩; replace HB := Aside0.mk (bst hb); (try clear hb); (try clear hb2); (try clear hk); (try clear hi)) | ((with_reducible refine gate_callee (f := 11) rfl ?_); refine goesL_ (some 18) rfl rfl Try.func11 (by kernel_rfl) rfl #[.slice A0 l0.length c0, .int .i64 4, .int .i64 5] rfl (by (try simp only [List.map_toArray, List.map_cons, List.map_nil]); first | done | rfl | (simp only [List.length_drop, List.length_take]; rfl)) ?_; (with_reducible refine (clinkerlaw06_Made.calls k _ _ l0 4 5 t408 t411 t412 t413 _ ?side1 ?side2 A5.out).mono ?_); (case side1 => repeat (first | exact (Kd.C_below HR0.out HB.out) | (with_reducible refine Kd.C_alloc ?_ _) | (with_reducible refine Kd.C_drewN ?_ _) | (with_reducible refine Kd.C_drew ?_))); (case side2 => exact HC0.out); rintro e w8 ⟨v409, rfl, ho0, hb⟩; refine ⟨_, rfl, ?_⟩; have HO410 := Aside0.mk (Kd.V_lower (Kd.V_mono (ok' := fun k_ => True) ho0 (fun k_ hk_ => trivial)) bsz); replace HB := Aside0.mk (bst hb); (try clear hb); (try clear hb2); (try clear hk); (try clear hi); (try clear ho0)) | ((with_reducible refine gate_dst (N := 6) rfl ?_); refine box_event ?hg (N := 6) ?hd (cs := #[.slice none 0 0, .bool false, .bool false, .int .i64 0]) (t := 32) ?hr ?_; (case hd => rfl); (case hg => rfl); (case hr => first | (go_simp; done) | (go_simp; rfl)); intro gb414 hg w9 hbox hb; replace HO410 := Aside0.mk (Kd.V_below (Kd.V_elderB (mV HO410.out) gb414 (Nat.le_of_eq hg.symm)) hb); have BK414 := Aside0.mk (hbox); have GW414 := Aside0.mk ((bz hg : w.heap.size ≤ gb414)); replace HB := Aside0.mk (bst hb); have GE414 := GW414; clear hb hbox hg; obtain ⟨Ao10, co10, eo10⟩ := Kd.V_slice HO410.out; subst eo10; obtain ⟨hcz11_0, hcz11_1, hcz11_2, hcz11_3, hfz11_0, hfz11_1, hfz11_2, hfz11_3⟩ := kc4 BK414.out) | ((with_reducible refine gate_callee (f := 12) rfl ?_); refine goesL_ (some 25) rfl rfl Try.func12 (by kernel_rfl) rfl #[.agg #[.slice Ao10 t408.length co10, .bool t411, .bool t412, .int .i64 t413], .int .i64 (Int.tmod (wrap64 (a1)) 65)] rfl (by (try simp only [List.map_toArray, List.map_cons, List.map_nil]); first | done | rfl | (simp only [List.length_drop, List.length_take]; rfl)) ?_; (with_reducible refine (clinkerref07_Replay.calls k _ _ t408 t411 t412 t413 (Int.tmod (wrap64 (a1)) 65) t415 t418 t421 _ ?side1 ?side2 A6.out).mono ?_); (case side1 => refine (Kd.V_reads' (e := 62) (base := w.heap.size) (ok := fun k_ => (True ∧ k_ ≠ gb414)) (n := t408.length) (c := co10) ?_).2.2; exact (by (with_reducible repeat (first | apply vA | apply vN | apply vD)); exact (Kd.V_mono (Kd.V_far (p := ⟨gb414, 3, none⟩) (Kd.V_far (p := ⟨gb414, 2, none⟩) (Kd.V_far (p := ⟨gb414, 1, none⟩) (Kd.V_far (p := ⟨gb414, 0, none⟩) (Kd.V_mono HO410.out (fun k_ hk => (⟨hk, hk.2⟩ : _ ∧ k_ ≠ gb414))) (fun _ hk => hk.2) _) (fun _ hk => hk.2) (.bool t411)) (fun _ hk => hk.2) (.bool t412)) (fun _ hk => hk.2) _) (fun _ h_ => h_.1)))); (case side2 => exact (Kd.V_reads' HO410.out).2.1); rintro e w12 ⟨v416, v419, rfl, ho0, ho1, hb⟩; refine ⟨_, rfl, ?_⟩; replace HO410 := Aside0.mk (Kd.V_mono (Kd.V_told (Kd.V_told (Kd.V_old (by (with_reducible repeat (first | apply vA | apply vN | apply vD)); exact (Kd.V_mono (Kd.V_far (p := ⟨gb414, 3, none⟩) (Kd.V_far (p := ⟨gb414, 2, none⟩) (Kd.V_far (p := ⟨gb414, 1, none⟩) (Kd.V_far (p := ⟨gb414, 0, none⟩) (Kd.V_mono HO410.out (fun k_ hk => (⟨hk, hk.2⟩ : _ ∧ k_ ≠ gb414))) (fun _ hk => hk.2) _) (fun _ hk => hk.2) (.bool t411)) (fun _ hk => hk.2) (.bool t412)) (fun _ hk => hk.2) _) (fun _ h_ => h_.1))) hb) (Kd.R_base ho0)) (Kd.R_base ho1)) (fun _ h_ => h_.1)); have HO417 := Aside0.mk (Kd.R_lower ho0 bsz); have HO420 := Aside0.mk (Kd.R_lower ho1 bsz); replace BK414 := Aside0.mk (blk_below (g := gb414) (o := .cells #[.slice Ao10 t408.length co10, .bool t411, .bool t412, .int .i64 t413] 32 (0, 0)) (by (with_reducible repeat (first | apply bN | apply bD | apply bA)); refine blk_put (cs := #[.slice Ao10 t408.length co10, .bool t411, .bool t412, .int .i64 0]) ?_ 3 _ rfl; (with_reducible repeat (first | apply bN | apply bD | apply bA)); refine blk_put (cs := #[.slice Ao10 t408.length co10, .bool t411, .bool false, .int .i64 0]) ?_ 2 _ rfl; (with_reducible repeat (first | apply bN | apply bD | apply bA)); refine blk_put (cs := #[.slice Ao10 t408.length co10, .bool false, .bool false, .int .i64 0]) ?_ 1 _ rfl; (with_reducible repeat (first | apply bN | apply bD | apply bA)); refine blk_put (cs := #[.slice none 0 0, .bool false, .bool false, .int .i64 0]) ?_ 0 _ rfl; (with_reducible repeat (first | apply bN | apply bD | apply bA)); exact BK414.out) hb); replace HB := Aside0.mk (bst hb); (try clear hb); (try clear hb2); (try clear hk); (try clear hi); (try clear ho0); (try clear ho1)) | ((with_reducible refine gate_dst (N := 8) rfl ?_); refine box_event ?hg (N := 8) ?hd (cs := #[.slice none 0 0, .slice none 0 0]) (t := 24) ?hr ?_; (case hd => rfl); (case hg => rfl); (case hr => first | (go_simp; done) | (go_simp; rfl)); intro gb422 hg w13 hbox hb; replace HO410 := Aside0.mk (Kd.V_below (Kd.V_elderB (mV HO410.out) gb422 (Nat.le_of_eq hg.symm)) hb); replace HO417 := Aside0.mk (Kd.R_below (mR HO417.out) hb); replace HO420 := Aside0.mk (Kd.R_below (mR HO420.out) hb); have BK422 := Aside0.mk (hbox); have GW422 := Aside0.mk ((bz hg : w.heap.size ≤ gb422)); replace HB := Aside0.mk (bst hb); have GE422 := GW422; have NB414_422 := Aside0.mk ((bl BK414.out hg : gb414 ≠ gb422)); replace BK414 := Aside0.mk (bb BK414.out hb); have NB422_414 := Aside0.mk NB414_422.out.symm; clear hb hbox hg; obtain ⟨Ao14, co14, eo14⟩ := Kd.R_slice HO417.out; subst eo14; have hnb15 := NB422_414.out; have hnc15 := NB414_422.out; obtain ⟨hcz16_0, hcz16_1, hfz16_0, hfz16_1⟩ := kc2 BK422.out; obtain ⟨Ao17, co17, eo17⟩ := Kd.R_slice HO420.out; subst eo17))
  go_loopg [10, 11] k (fun kq v10 v11 w' => ∃ (x10_1 : Int) (x11_1 : Int), v10 = .int .i64 x10_1 ∧ v11 = .int .i64 x11_1 ∧ Aside0 (clinkerlaw08_LiveBound.l0 kq true (Int.tmod (wrap64 (a1)) 65) x10_1 x11_1 t415 t418 = some r) ∧ Aside0 (kq ≤ k) ∧ Aside0 (Kd.V k62 62 w' w.heap.size (fun k_ => some k_ ≠ ((.slice Ao14 t415.length co14) : Value).ownBlock ∧ some k_ ≠ ((.slice Ao17 t418.length co17) : Value).ownBlock ∧ k_ ≠ gb414 ∧ k_ ≠ gb422) (.slice Ao10 t408.length co10) t408) ∧ Aside0 (Kd.R (Kd.int .i64) 3 w' w.heap.size (fun k_ => some k_ ≠ ((.slice Ao17 t418.length co17) : Value).ownBlock) (.slice Ao14 t415.length co14) t415) ∧ Aside0 (Kd.R (Kd.int .i64) 3 w' w.heap.size (fun k_ => some k_ ≠ ((.slice Ao14 t415.length co14) : Value).ownBlock) (.slice Ao17 t418.length co17) t418) ∧ Aside0 (w'.heap[gb414]? = some (.cells #[(.slice Ao10 t408.length co10), .bool t411, .bool t412, .int .i64 t413] 32 (0, 0))) ∧ Aside0 (w'.heap[gb422]? = some (.cells #[(.slice Ao14 t415.length co14), (.slice Ao17 t418.length co17)] 24 (0, 0))) ∧ Aside0 (Below w.heap.size w w'))
  case atStart => exact ⟨(0), (0), (by first | rfl | (simp; done) | (simp [*]; done)), (by first | rfl | (simp; done) | (simp [*]; done)), H', ⟨Nat.le_refl _⟩, ⟨by (with_reducible repeat (first | apply vA | apply vN | apply vD)); exact Kd.V_mono (Kd.V_far (p := ⟨gb422, 1, none⟩) (Kd.V_far (p := ⟨gb422, 0, none⟩) (Kd.V_mono HO410.out (fun k_ hk => (⟨hk, hk.2⟩ : _ ∧ k_ ≠ gb422))) (fun _ hk => hk.2) _) (fun _ hk => hk.2) _) (fun _ hk => ⟨hk.1.1.1.2, ⟨hk.1.1.2, ⟨hk.1.1.1.1.2, hk.1.2⟩⟩⟩)⟩, ⟨by (with_reducible repeat (first | apply rA | apply rN | apply rD)); exact Kd.R_mono (Kd.R_far (p := ⟨gb422, 1, none⟩) (Kd.R_far (p := ⟨gb422, 0, none⟩) (Kd.R_types HO417.out BK422.out (by decide)) (fun _ hk => hk.2) _) (fun _ hk => hk.2) _) (fun _ hk => hk.1)⟩, ⟨by (with_reducible repeat (first | apply rA | apply rN | apply rD)); exact Kd.R_mono (Kd.R_far (p := ⟨gb422, 1, none⟩) (Kd.R_far (p := ⟨gb422, 0, none⟩) (Kd.R_types HO420.out BK422.out (by decide)) (fun _ hk => hk.2) _) (fun _ hk => hk.2) _) (fun _ hk => hk.1)⟩, ⟨by (with_reducible repeat (first | apply bN | apply bD | apply bA)); refine blk_far ?_ NB414_422.out _; (with_reducible repeat (first | apply bN | apply bD | apply bA)); refine blk_far ?_ NB414_422.out _; (with_reducible repeat (first | apply bN | apply bD | apply bA)); exact BK414.out⟩, ⟨by (with_reducible repeat (first | apply bN | apply bD | apply bA)); refine blk_put (cs := #[.slice Ao14 t415.length co14, .slice none 0 0]) ?_ 1 _ rfl; (with_reducible repeat (first | apply bN | apply bD | apply bA)); refine blk_put (cs := #[.slice none 0 0, .slice none 0 0]) ?_ 0 _ rfl; (with_reducible repeat (first | apply bN | apply bD | apply bA)); exact BK422.out⟩, ⟨mH⟩⟩
  case round =>
   clear H'
   try clear c1
   try clear p2
   try clear c4
   try clear c5
   try clear p6
   try clear c9
   try clear c11
   try clear c12
   try clear c15
   try clear hcz11_0
   try clear hcz11_1
   try clear hcz11_2
   try clear hcz11_3
   try clear hcz16_0
   try clear hcz16_1
   try clear hfz11_0
   try clear hfz11_1
   try clear hfz11_2
   try clear hfz11_3
   try clear hfz16_0
   try clear hfz16_1
   obtain ⟨x10_1, x11_1, rfl, rfl, HA, HK1, HO_415000, HO_423000, HO_423001, BK414, BK422, HB⟩ := hrel
   cases gk with
   | zero => exact absurd HA.out (by simp [clinkerlaw08_LiveBound.l0])
   | succ k1 =>
    have H := HA.out
    clear HA
    simp only [clinkerlaw08_LiveBound.l0] at H
    by_cases c18 : x11_1 < 32
    ·
     rw [if_pos c18] at H
     have c18b0 : decide (x11_1 < 32) = true := decide_eq_true c18
     clear c18
     replace H := Option.bind_eq_some_iff.mp H
     obtain ⟨t423, A190, H⟩ := H
     replace H : (clinkerlaw08_LiveBound.l0 k1 true (Int.tmod (wrap64 (a1)) 65) (wrap64 (x10_1 + t423)) (wrap64 (x11_1 + 1)) t415 t418) = some r := H
     have A19 := Aside0.mk A190
     clear A190
     have H' := Aside0.mk H
     clear H
     have hnb20 := NB422_414.out
     have hnc20 := NB414_422.out
     obtain ⟨hcz21_0, hcz21_1, hfz21_0, hfz21_1⟩ := kc2 BK422.out
     go_wp2_with (first | ((with_reducible refine gate_callee (f := 13) rfl ?_); refine goesL_ (some 35) rfl rfl Try.func13 (by kernel_rfl) rfl #[.agg #[.slice Ao14 t415.length co14, .slice Ao17 t418.length co17], .int .i64 x11_1] rfl (by (try simp only [List.map_toArray, List.map_cons, List.map_nil]); first | done | rfl | (simp only [List.length_drop, List.length_take]; rfl)) ?_; (with_reducible refine (live_Count.calls _ _ t415 _ _ t418 x11_1 t423 _ ?side1 ?side2 ?side3 ?side4 A19.out).mono ?_); (case side1 => repeat (first | exact (Kd.R_reads' HO_423000.out).2.2 | (with_reducible refine Kd.C_alloc ?_ _) | (with_reducible refine Kd.C_drewN ?_ _) | (with_reducible refine Kd.C_drew ?_))); (case side2 => exact (Kd.R_reads' HO_423000.out).2.1); (case side3 => repeat (first | exact (Kd.R_reads' HO_423001.out).2.2 | (with_reducible refine Kd.C_alloc ?_ _) | (with_reducible refine Kd.C_drewN ?_ _) | (with_reducible refine Kd.C_drew ?_))); (case side4 => exact (Kd.R_reads' HO_423001.out).2.1); rintro e w22 ⟨rfl, hb⟩; refine ⟨_, rfl, ?_⟩; replace HO_415000 := Aside0.mk (Kd.V_below (mV HO_415000.out) hb); replace HO_423000 := Aside0.mk (Kd.R_below (mR HO_423000.out) hb); replace HO_423001 := Aside0.mk (Kd.R_below (mR HO_423001.out) hb); replace BK414 := Aside0.mk (bb BK414.out hb); replace BK422 := Aside0.mk (bb BK422.out hb); replace HB := Aside0.mk (bst hb); (try clear hb); (try clear hb2); (try clear hk); (try clear hi)))
     go_roundg k1
     case measure => have := HK1.out; omega
     case rel => exact ⟨(wrap64 (x10_1 + t423)), (wrap64 (x11_1 + 1)), (by first | rfl | (simp; done) | (simp [*]; done)), (by first | rfl | (simp; done) | (simp [*]; done)), H', ⟨by have := HK1.out; omega⟩, ⟨mV HO_415000.out⟩, ⟨mR HO_423000.out⟩, ⟨mR HO_423001.out⟩, ⟨mB BK414.out⟩, ⟨mB BK422.out⟩, ⟨mH⟩⟩
    ·
     rw [if_neg c18] at H
     have c18b0 : decide (x11_1 < 32) = false := decide_eq_false c18
     clear c18
     have H' := Aside0.mk H
     clear H
     go_wp2
     go_loopg [12, 13] k1 (fun kq v12 v13 w' => ∃ (x12_2 : Int) (x13_2 : Int), v12 = .int .i64 x12_2 ∧ v13 = .int .i64 x13_2 ∧ Aside0 (clinkerlaw08_LiveBound.l1 kq true (Int.tmod (wrap64 (a1)) 65) x10_1 x12_2 x13_2 t415 t418 = some r) ∧ Aside0 (kq ≤ k1) ∧ Aside0 (Kd.V k62 62 w' w.heap.size (fun k_ => some k_ ≠ ((.slice Ao14 t415.length co14) : Value).ownBlock ∧ some k_ ≠ ((.slice Ao17 t418.length co17) : Value).ownBlock ∧ k_ ≠ gb414 ∧ k_ ≠ gb422) (.slice Ao10 t408.length co10) t408) ∧ Aside0 (Kd.R (Kd.int .i64) 3 w' w.heap.size (fun k_ => some k_ ≠ ((.slice Ao17 t418.length co17) : Value).ownBlock) (.slice Ao14 t415.length co14) t415) ∧ Aside0 (Kd.R (Kd.int .i64) 3 w' w.heap.size (fun k_ => some k_ ≠ ((.slice Ao14 t415.length co14) : Value).ownBlock) (.slice Ao17 t418.length co17) t418) ∧ Aside0 (w'.heap[gb414]? = some (.cells #[(.slice Ao10 t408.length co10), .bool t411, .bool t412, .int .i64 t413] 32 (0, 0))) ∧ Aside0 (w'.heap[gb422]? = some (.cells #[(.slice Ao14 t415.length co14), (.slice Ao17 t418.length co17)] 24 (0, 0))) ∧ Aside0 (Below w.heap.size w w'))
     case atStart => exact ⟨(0), (0), (by first | rfl | (simp; done) | (simp [*]; done)), (by first | rfl | (simp; done) | (simp [*]; done)), H', ⟨Nat.le_refl _⟩, ⟨mV HO_415000.out⟩, ⟨mR HO_423000.out⟩, ⟨mR HO_423001.out⟩, ⟨mB BK414.out⟩, ⟨mB BK422.out⟩, ⟨mH⟩⟩
     case round =>
      clear H'
      try clear c1
      try clear c2
      try clear p2
      try clear c4
      try clear c5
      try clear p6
      try clear c9
      try clear c11
      try clear c12
      try clear c13
      try clear c15
      try clear c18
      try clear c18b0
      try clear c20
      try clear hcz11_0
      try clear hcz11_1
      try clear hcz11_2
      try clear hcz11_3
      try clear hcz16_0
      try clear hcz16_1
      try clear hcz21_0
      try clear hcz21_1
      try clear hfz11_0
      try clear hfz11_1
      try clear hfz11_2
      try clear hfz11_3
      try clear hfz16_0
      try clear hfz16_1
      try clear hfz21_0
      try clear hfz21_1
      try clear p2
      try clear p6
      obtain ⟨x12_2, x13_2, rfl, rfl, HA, HK2, HO_415000, HO_423000, HO_423001, BK414, BK422, HB⟩ := hrel
      cases gk with
      | zero => exact absurd HA.out (by simp [clinkerlaw08_LiveBound.l1])
      | succ k2 =>
       have H := HA.out
       clear HA
       simp only [clinkerlaw08_LiveBound.l1] at H
       by_cases c23 : x13_2 < 512
       ·
        rw [if_pos c23] at H
        have c23b0 : decide (x13_2 < 512) = true := decide_eq_true c23
        clear c23
        replace H := Option.bind_eq_some_iff.mp H
        obtain ⟨t424, A240, H⟩ := H
        replace H : (if t424 = true then (clinkerlaw08_LiveBound.l1 k2 true (Int.tmod (wrap64 (a1)) 65) x10_1 (wrap64 (x12_2 + 1)) (wrap64 (x13_2 + 1)) t415 t418) else (clinkerlaw08_LiveBound.l1 k2 true (Int.tmod (wrap64 (a1)) 65) x10_1 x12_2 (wrap64 (x13_2 + 1)) t415 t418)) = some r := H
        have A24 := Aside0.mk A240
        clear A240
        by_cases c25 : t424 = true
        ·
         subst c25
         have H1 : (clinkerlaw08_LiveBound.l1 k2 true (Int.tmod (wrap64 (a1)) 65) x10_1 (wrap64 (x12_2 + 1)) (wrap64 (x13_2 + 1)) t415 t418) = some r := by rw [if_pos rfl] at H; exact H
         clear H
         have H := H1
         clear H1
         have H' := Aside0.mk H
         clear H
         have hnb26 := NB422_414.out
         have hnc26 := NB414_422.out
         obtain ⟨hcz27_0, hcz27_1, hfz27_0, hfz27_1⟩ := kc2 BK422.out
         go_wp2_with (first | ((with_reducible refine gate_callee (f := 14) rfl ?_); refine goesL_ (some 43) rfl rfl Try.func14 (by kernel_rfl) rfl #[.agg #[.slice Ao14 t415.length co14, .slice Ao17 t418.length co17], .int .i64 x13_2] rfl (by (try simp only [List.map_toArray, List.map_cons, List.map_nil]); first | done | rfl | (simp only [List.length_drop, List.length_take]; rfl)) ?_; (with_reducible refine (live_Live.calls k2 _ _ t415 _ _ t418 x13_2 true _ ?side1 ?side2 ?side3 ?side4 A24.out).mono ?_); (case side1 => repeat (first | exact (Kd.R_reads' HO_423000.out).2.2 | (with_reducible refine Kd.C_alloc ?_ _) | (with_reducible refine Kd.C_drewN ?_ _) | (with_reducible refine Kd.C_drew ?_))); (case side2 => exact (Kd.R_reads' HO_423000.out).2.1); (case side3 => repeat (first | exact (Kd.R_reads' HO_423001.out).2.2 | (with_reducible refine Kd.C_alloc ?_ _) | (with_reducible refine Kd.C_drewN ?_ _) | (with_reducible refine Kd.C_drew ?_))); (case side4 => exact (Kd.R_reads' HO_423001.out).2.1); rintro e w28 ⟨rfl, hb⟩; refine ⟨_, rfl, ?_⟩; replace HO_415000 := Aside0.mk (Kd.V_below (mV HO_415000.out) hb); replace HO_423000 := Aside0.mk (Kd.R_below (mR HO_423000.out) hb); replace HO_423001 := Aside0.mk (Kd.R_below (mR HO_423001.out) hb); replace BK414 := Aside0.mk (bb BK414.out hb); replace BK422 := Aside0.mk (bb BK422.out hb); replace HB := Aside0.mk (bst hb); (try clear hb); (try clear hb2); (try clear hk); (try clear hi)))
         go_roundg k2
         case measure => have := HK1.out; have := HK2.out; omega
         case rel => exact ⟨(wrap64 (x12_2 + 1)), (wrap64 (x13_2 + 1)), (by first | rfl | (simp; done) | (simp [*]; done)), (by first | rfl | (simp; done) | (simp [*]; done)), H', ⟨by have := HK1.out; have := HK2.out; omega⟩, ⟨mV HO_415000.out⟩, ⟨mR HO_423000.out⟩, ⟨mR HO_423001.out⟩, ⟨mB BK414.out⟩, ⟨mB BK422.out⟩, ⟨mH⟩⟩
        ·
         replace c25 := Bool.eq_false_iff.mpr c25
         subst c25
         have H1 : (clinkerlaw08_LiveBound.l1 k2 true (Int.tmod (wrap64 (a1)) 65) x10_1 x12_2 (wrap64 (x13_2 + 1)) t415 t418) = some r := by rw [if_neg (show ¬ (false = true) by decide)] at H; exact H
         clear H
         have H := H1
         clear H1
         have H' := Aside0.mk H
         clear H
         have hnb29 := NB422_414.out
         have hnc29 := NB414_422.out
         obtain ⟨hcz30_0, hcz30_1, hfz30_0, hfz30_1⟩ := kc2 BK422.out
         go_wp2_with (first | ((with_reducible refine gate_callee (f := 14) rfl ?_); refine goesL_ (some 43) rfl rfl Try.func14 (by kernel_rfl) rfl #[.agg #[.slice Ao14 t415.length co14, .slice Ao17 t418.length co17], .int .i64 x13_2] rfl (by (try simp only [List.map_toArray, List.map_cons, List.map_nil]); first | done | rfl | (simp only [List.length_drop, List.length_take]; rfl)) ?_; (with_reducible refine (live_Live.calls k2 _ _ t415 _ _ t418 x13_2 false _ ?side1 ?side2 ?side3 ?side4 A24.out).mono ?_); (case side1 => repeat (first | exact (Kd.R_reads' HO_423000.out).2.2 | (with_reducible refine Kd.C_alloc ?_ _) | (with_reducible refine Kd.C_drewN ?_ _) | (with_reducible refine Kd.C_drew ?_))); (case side2 => exact (Kd.R_reads' HO_423000.out).2.1); (case side3 => repeat (first | exact (Kd.R_reads' HO_423001.out).2.2 | (with_reducible refine Kd.C_alloc ?_ _) | (with_reducible refine Kd.C_drewN ?_ _) | (with_reducible refine Kd.C_drew ?_))); (case side4 => exact (Kd.R_reads' HO_423001.out).2.1); rintro e w31 ⟨rfl, hb⟩; refine ⟨_, rfl, ?_⟩; replace HO_415000 := Aside0.mk (Kd.V_below (mV HO_415000.out) hb); replace HO_423000 := Aside0.mk (Kd.R_below (mR HO_423000.out) hb); replace HO_423001 := Aside0.mk (Kd.R_below (mR HO_423001.out) hb); replace BK414 := Aside0.mk (bb BK414.out hb); replace BK422 := Aside0.mk (bb BK422.out hb); replace HB := Aside0.mk (bst hb); (try clear hb); (try clear hb2); (try clear hk); (try clear hi)))
         go_roundg k2
         case measure => have := HK1.out; have := HK2.out; omega
         case rel => exact ⟨(x12_2), (wrap64 (x13_2 + 1)), (by first | rfl | (simp; done) | (simp [*]; done)), (by first | rfl | (simp; done) | (simp [*]; done)), H', ⟨by have := HK1.out; have := HK2.out; omega⟩, ⟨mV HO_415000.out⟩, ⟨mR HO_423000.out⟩, ⟨mR HO_423001.out⟩, ⟨mB BK414.out⟩, ⟨mB BK422.out⟩, ⟨mH⟩⟩
       ·
        rw [if_neg c23] at H
        have c23b0 : decide (x13_2 < 512) = false := decide_eq_false c23
        clear c23
        replace H : (if x10_1 ≤ (wrap64 (2 * (Int.tmod (wrap64 (a1)) 65))) then (some (x10_1 == x12_2)) else (some false)) = some r := by first | exact H | (rw [if_pos rfl] at H; exact H) | simpa using H
        by_cases c32 : x10_1 ≤ (wrap64 (2 * (Int.tmod (wrap64 (a1)) 65)))
        ·
         rw [if_pos c32] at H
         have c32b0 : decide (x10_1 ≤ (wrap64 (2 * (Int.tmod (wrap64 (a1)) 65)))) = true := decide_eq_true c32
         clear c32
         obtain rfl := Option.some.inj H
         go_wp2
         go_ret
         exact ⟨by first | rfl | (simp [errW_none, errW_some] <;> rfl) | (simp [*, errW_none, errW_some] <;> rfl), by repeat (first | (with_reducible first | exact HB.out | apply lA | apply lN | apply lD | refine lS ?_ GE414.out | refine lS ?_ GE422.out) | exact HB.out)⟩
        ·
         rw [if_neg c32] at H
         have c32b0 : decide (x10_1 ≤ (wrap64 (2 * (Int.tmod (wrap64 (a1)) 65)))) = false := decide_eq_false c32
         clear c32
         obtain rfl := Option.some.inj H
         go_wp2
         go_ret
         exact ⟨by first | rfl | (simp [errW_none, errW_some] <;> rfl) | (simp [*, errW_none, errW_some] <;> rfl), by repeat (first | (with_reducible first | exact HB.out | apply lA | apply lN | apply lD | refine lS ?_ GE414.out | refine lS ?_ GE422.out) | exact HB.out)⟩
 ·
  replace c4 := Bool.eq_false_iff.mpr c4
  subst c4
  have H1 : (some false) = some r := by rw [if_neg (show ¬ (false = true) by decide)] at H; exact H
  clear H
  have H := H1
  clear H1
  obtain rfl := Option.some.inj H
  go_enter Try.func5, Try.ntmps5
  go_wp2_with (first | ((with_reducible refine gate_callee (f := 9) rfl ?_); refine goesL_ (some 14) rfl rfl Try.func9 (by kernel_rfl) rfl #[] rfl (by (try simp only [List.map_toArray, List.map_cons, List.map_nil]); first | done | rfl | (simp only [List.length_drop, List.length_take]; rfl)) ?_; (with_reducible refine (clinkerlaw08_awake.calls k  false _ A3.out).mono ?_); rintro e w33 ⟨rfl, hb⟩; refine ⟨_, rfl, ?_⟩; replace HB := Aside0.mk (bst hb); (try clear hb); (try clear hb2); (try clear hk); (try clear hi)))
  go_ret
  exact ⟨by first | rfl | (simp [errW_none, errW_some] <;> rfl) | (simp [*, errW_none, errW_some] <;> rfl), by repeat (first | exact HB.out | apply lA | apply lN | apply lD)⟩

/-- THE ONE PURE STATEMENT of clinkerlaw08_LiveBound: yours. -/
def clinkerlaw08_LiveBound.Pure : Prop := ∀ (l0 : List Int) (a1 : Int), l0.length ≤ maxLen → l0.length * 2 ≤ 140737488351232 → (∀ x ∈ l0, (Lit.int .u16 x).wf = true) → (Lit.int .u8 a1).wf = true → ∃ k, clinkerlaw08_LiveBound.f k l0 a1 = some true
theorem clinkerlaw08_LiveBound.walk (P : clinkerlaw08_LiveBound.Pure) (a0 : Option Addr) (len0 cap0 : Nat) (z0 : List Int) (a1 : Int) (w : World) (w0 : (a0 = none ∧ len0 = 0 ∧ cap0 = 0 ∧ z0 = []) ∨ ∃ x, a0 = some x ∧ len0 ≤ cap0 ∧ cap0 ≤ maxLen ∧ z0.length = cap0 ∧ (∀ i, i < z0.length → w.cell? (x.add i) = some (.int .u16 (z0.getD i 0))) ∧ ∀ n ∈ z0, (Lit.int .u16 n).wf = true) (y0 : len0 * 2 ≤ 140737488351232) (w1 : (Lit.int .u8 a1).wf = true) :
  Calls Try.prog 5 #[.slice a0 len0 cap0, .int .u8 a1] w fun e w' => e = .returned (.bool true) ∧ Below w.heap.size w w' := by
 obtain ⟨l0, rfl, hr0, hm0, hw0, hc0⟩ := ReadsInt.ofRowC w0
 obtain ⟨k, h⟩ := P l0 a1 hm0 y0 hw0 w1
 refine (clinkerlaw08_LiveBound.calls k _ _ l0 a1 true w (Kd.C_of_reads (d := (0 : Int)) (h1 := fun _ => rfl) hr0) hc0 h).mono ?_
 rintro e w' ⟨rfl, hd⟩
 exact ⟨rfl, hd⟩

end Go.Proofs.Ytfolonajajideaa.PAll
