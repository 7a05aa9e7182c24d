/- Written by a program of this session (wip/xp) out of the translation: functions in plain Lean, and proofs that the calls come to these. -/
import Derived.Test.YtnbhkogjamdfhaaPAllx0
import Derived.Test.YtnbhkogjamdfhaaPAllx1
import Derived.Test.YtnbhkogjamdfhaaPAllx2
import Derived.Test.YtnbhkogjamdfhaaPAllx8
import Derived.Test.YtnbhkogjamdfhaaPAllx9
import Derived.Test.YtnbhkogjamdfhaaPAllx14
namespace Go.Proofs.Ytnbhkogjamdfhaa.PAll
open Go.RowKit Go.Proofs.YtnbhkogjamdfhaaW.PrintWords Go.Proofs.YtnbhkogjamdfhaaW.PrintLast Go.Proofs.YtnbhkogjamdfhaaW.PrintMore
attribute [local go_sem] max2_int min2_int max_two min_two max_three min_three max_four min_four   -- for this text's walks alone
set_option linter.unusedVariables false
set_option linter.unusedSimpArgs false

/-! ### clinkerlaw10_StatesOne: function 3 -/
mutual
def clinkerlaw10_StatesOne.l0 : Nat → Bool → Int → Int → Int → List (S45) → Bool → Bool → Int → Option (Bool)
 | 0, _, _, _, _, _, _, _, _ => none
 | k + 1, x7, x9, x10, x11, x271000, x271001, x271002, x271003 => if x11 ≤ 3 then ((states_Many.f x271000 x271001 x271002 x271003 x9 x11).bind fun t271 => (clinkerlaw10_StatesOne.l0 k x7 x9 (wrap64 (x10 + t271)) (wrap64 (x11 + 1)) x271000 x271001 x271002 x271003)) else (clinkerlaw10_StatesOne.l1 k x7 x10 0 x271000 x271001 x271002 x271003)
def clinkerlaw10_StatesOne.l1 : Nat → Bool → Int → Int → List (S45) → Bool → Bool → Int → Option (Bool)
 | 0, _, _, _, _, _, _, _ => none
 | k + 1, x7, x10, x12, x271000, x271001, x271002, x271003 => if x12 < (x271000.length : Int) then ((clinkerref05_Erase.f x271000 x271001 x271002 x271003 x12 0 (⟨#[]⟩ : ByteArray) (⟨#[]⟩ : ByteArray) 0).bind fun bt272 => ((states_State.f x271000 x271001 x271002 x271003 (-1) x12).bind fun t280 => (if t280 = 2 then (if bt272.2.2.2.2 = 0 then ((states_State.f bt272.1 bt272.2.1 bt272.2.2.1 bt272.2.2.2.1 (-1) x12).bind fun t281 => (if t281 = 0 then (clinkerlaw10_StatesOne.l1 k x7 x10 (wrap64 (x12 + 1)) x271000 x271001 x271002 x271003) else (some false))) else (some false)) else (clinkerlaw10_StatesOne.l1 k x7 x10 (wrap64 (x12 + 1)) x271000 x271001 x271002 x271003)))) else (if x7 = true then (some (x10 == (x271000.length : Int))) else (some false))
end
def clinkerlaw10_StatesOne.f (k : Nat) (l0 : List Int) (a1 : Int) (a2 : Int) : Option (Bool) := (clinkerlaw10_awake.f k).bind fun t263 => (if t263 = true then ((clinkerlaw06_Made.f k l0 (wrap64 (1 + (Int.tmod (wrap64 (a2)) 6))) 4).bind fun bt264 => (clinkerlaw10_StatesOne.l0 k t263 (wrap64 ((Int.tmod (wrap64 (a1)) 8) - 1)) 0 0 bt264.1 bt264.2.1 bt264.2.2.1 bt264.2.2.2)) else (some false))
theorem clinkerlaw10_StatesOne.mono_l : ∀ k, (∀ y0 y1 y2 y3 y4 y5 y6 y7, LeO (clinkerlaw10_StatesOne.l0 k y0 y1 y2 y3 y4 y5 y6 y7) (clinkerlaw10_StatesOne.l0 (k + 1) y0 y1 y2 y3 y4 y5 y6 y7)) ∧ (∀ y0 y1 y2 y3 y4 y5 y6, LeO (clinkerlaw10_StatesOne.l1 k y0 y1 y2 y3 y4 y5 y6) (clinkerlaw10_StatesOne.l1 (k + 1) y0 y1 y2 y3 y4 y5 y6))
 | 0 => ⟨fun _ _ _ _ _ _ _ _ r h => by simp [clinkerlaw10_StatesOne.l0] at h, fun _ _ _ _ _ _ _ r h => by simp [clinkerlaw10_StatesOne.l1] at h⟩
 | k + 1 => by
  obtain ⟨ih0, ih1⟩ := clinkerlaw10_StatesOne.mono_l k
  refine ⟨?_, ?_⟩
  ·
   intro y0 y1 y2 y3 y4 y5 y6 y7
   unfold clinkerlaw10_StatesOne.l0
   repeat' first
   | (with_reducible exact ih0 _ _ _ _ _ _ _ _)
   | (with_reducible exact ih1 _ _ _ _ _ _ _)
   | (with_reducible exact clinkerlaw06_Made.mono _ _ _ _)
   | (with_reducible exact clinkerlaw10_awake.mono _)
   | (with_reducible exact LeO.refl _)
   | (with_reducible exact LeO.none _)
   | (with_reducible refine LeO.ite ?_ ?_)
   | (with_reducible refine LeO.bind ?_ (fun _ => ?_))
   | exact ih0 _ _ _ _ _ _ _ _
   | exact ih1 _ _ _ _ _ _ _
   | exact clinkerlaw06_Made.mono _ _ _ _
   | exact clinkerlaw10_awake.mono _
   | exact LeO.none _
   | refine LeO.ite ?_ ?_
   | refine LeO.bind ?_ (fun _ => ?_)
  ·
   intro y0 y1 y2 y3 y4 y5 y6
   unfold clinkerlaw10_StatesOne.l1
   repeat' first
   | (with_reducible exact ih0 _ _ _ _ _ _ _ _)
   | (with_reducible exact ih1 _ _ _ _ _ _ _)
   | (with_reducible exact clinkerlaw06_Made.mono _ _ _ _)
   | (with_reducible exact clinkerlaw10_awake.mono _)
   | (with_reducible exact LeO.refl _)
   | (with_reducible exact LeO.none _)
   | (with_reducible refine LeO.ite ?_ ?_)
   | (with_reducible refine LeO.bind ?_ (fun _ => ?_))
   | exact ih0 _ _ _ _ _ _ _ _
   | exact ih1 _ _ _ _ _ _ _
   | exact clinkerlaw06_Made.mono _ _ _ _
   | exact clinkerlaw10_awake.mono _
   | exact LeO.none _
   | refine LeO.ite ?_ ?_
   | refine LeO.bind ?_ (fun _ => ?_)
theorem clinkerlaw10_StatesOne.mono : ∀ a0 a1 a2 k, LeO (clinkerlaw10_StatesOne.f k a0 a1 a2) (clinkerlaw10_StatesOne.f (k + 1) a0 a1 a2) := by
 intro a0 a1 a2 k
 obtain ⟨ih0, ih1⟩ := clinkerlaw10_StatesOne.mono_l k
 unfold clinkerlaw10_StatesOne.f
 repeat' first
   | (with_reducible exact ih0 _ _ _ _ _ _ _ _)
   | (with_reducible exact ih1 _ _ _ _ _ _ _)
   | (with_reducible exact clinkerlaw06_Made.mono _ _ _ _)
   | (with_reducible exact clinkerlaw10_awake.mono _)
   | (with_reducible exact LeO.refl _)
   | (with_reducible exact LeO.none _)
   | (with_reducible refine LeO.ite ?_ ?_)
   | (with_reducible refine LeO.bind ?_ (fun _ => ?_))
   | exact ih0 _ _ _ _ _ _ _ _
   | exact ih1 _ _ _ _ _ _ _
   | exact clinkerlaw06_Made.mono _ _ _ _
   | exact clinkerlaw10_awake.mono _
   | exact LeO.none _
   | refine LeO.ite ?_ ?_
   | refine LeO.bind ?_ (fun _ => ?_)
set_option maxHeartbeats 8000000 in
set_option maxRecDepth 100000 in
theorem clinkerlaw10_StatesOne.calls (k : Nat) (A0 : Option Addr) (c0 : Nat) (l0 : List Int) (a1 : Int) (a2 : Int) (r : Bool) (hrt : Aside0 (r = true)) (w : World) (hr0 : Kd.C (Kd.int .u16) w A0 l0.length l0) (hc0 : l0.length ≤ c0) (h : clinkerlaw10_StatesOne.f k l0 a1 a2 = some r) :
  Calls Try.prog 3 #[.slice A0 l0.length c0, .int .u8 a1, .int .u8 a2] w fun e w' => e = .returned (.bool r) ∧ Below w.heap.size w w' := by
 have hu26 := Try.underlying26
 have hu33 := Try.underlying33
 have HR0 := Aside0.mk hr0
 have HC0 := Aside0.mk hc0
 clear hr0 hc0
 have HB := Aside0.mk (Below.refl w.heap.size w)
 have H : ((clinkerlaw10_awake.f k).bind fun t263 => (if t263 = true then ((clinkerlaw06_Made.f k l0 (wrap64 (1 + (Int.tmod (wrap64 (a2)) 6))) 4).bind fun bt264 => (clinkerlaw10_StatesOne.l0 k t263 (wrap64 ((Int.tmod (wrap64 (a1)) 8) - 1)) 0 0 bt264.1 bt264.2.1 bt264.2.2.1 bt264.2.2.2)) else (some false))) = some r := h
 clear h
 replace H := Option.bind_eq_some_iff.mp H
 obtain ⟨t263, A40, H⟩ := H
 replace H : (if t263 = true then ((clinkerlaw06_Made.f k l0 (wrap64 (1 + (Int.tmod (wrap64 (a2)) 6))) 4).bind fun bt264 => (clinkerlaw10_StatesOne.l0 k t263 (wrap64 ((Int.tmod (wrap64 (a1)) 8) - 1)) 0 0 bt264.1 bt264.2.1 bt264.2.2.1 bt264.2.2.2)) else (some false)) = some r := H
 have A4 := Aside0.mk A40
 clear A40
 by_cases c5 : t263 = true
 ·
  subst c5
  have H1 : ((clinkerlaw06_Made.f k l0 (wrap64 (1 + (Int.tmod (wrap64 (a2)) 6))) 4).bind fun bt264 => (clinkerlaw10_StatesOne.l0 k true (wrap64 ((Int.tmod (wrap64 (a1)) 8) - 1)) 0 0 bt264.1 bt264.2.1 bt264.2.2.1 bt264.2.2.2)) = some r := by rw [if_pos rfl] at H; exact H
  clear H
  have H := H1
  clear H1
  replace H := Option.bind_eq_some_iff.mp H
  obtain ⟨⟨t264, t267, t268, t269⟩, A60, H⟩ := H
  replace H : (clinkerlaw10_StatesOne.l0 k true (wrap64 ((Int.tmod (wrap64 (a1)) 8) - 1)) 0 0 t264 t267 t268 t269) = some r := H
  have A6 := Aside0.mk A60
  clear A60
  have H' := Aside0.mk H
  clear H
  go_enter Try.func3, Try.ntmps3
  go_wp2_with (first | ((with_reducible refine gate_callee (f := 6) rfl ?_); refine goesL_ (some 15) rfl rfl Try.func6 (by kernel_rfl) rfl #[] rfl (by (try simp only [List.map_toArray, List.map_cons, List.map_nil]); first | done | rfl | (simp only [List.length_drop, List.length_take]; rfl)) ?_; (with_reducible refine (clinkerlaw10_awake.calls k  true _ A4.out).mono ?_); rintro e w7 ⟨rfl, hb⟩; refine ⟨_, rfl, ?_⟩; have n0_ := Aside0.mk (below_step (by repeat (first | exact HB.out | apply below_alloc | apply pw_below_drewN | apply below_drew1)) hb); clear HB; have HB := n0_; clear n0_; (try clear hb); (try clear hb2); (try clear hk); (try clear hi)) | ((with_reducible refine gate_callee (f := 7) rfl ?_); refine goesL_ (some 23) rfl rfl Try.func7 (by kernel_rfl) rfl #[.slice A0 l0.length c0, .int .i64 (wrap64 (1 + (Int.tmod (wrap64 (a2)) 6))), .int .i64 4] rfl (by (try simp only [List.map_toArray, List.map_cons, List.map_nil]); first | done | rfl | (simp only [List.length_drop, List.length_take]; rfl)) ?_; (with_reducible refine (clinkerlaw06_Made.calls k _ _ l0 (wrap64 (1 + (Int.tmod (wrap64 (a2)) 6))) 4 t264 t267 t268 t269 _ ?side1 ?side2 A6.out).mono ?_); (case side1 => repeat (first | exact (Kd.C_below HR0.out HB.out) | (with_reducible refine Kd.C_alloc ?_ _) | (with_reducible refine Kd.C_drewN ?_ _) | (with_reducible refine Kd.C_drew ?_))); (case side2 => exact HC0.out); rintro e w8 ⟨v265, rfl, ho0, hb⟩; refine ⟨_, rfl, ?_⟩; have n0_ := Aside0.mk (Kd.V_lower (Kd.V_mono (ok' := fun k_ => True) ho0 (fun k_ hk_ => trivial)) (below_size (by repeat (first | exact HB.out | apply below_alloc | apply pw_below_drewN | apply below_drew1)))); have n1_ := Aside0.mk (below_step (by repeat (first | exact HB.out | apply below_alloc | apply pw_below_drewN | apply below_drew1)) hb); clear HB; have HO266 := n0_; have HB := n1_; clear n0_ n1_; (try clear hb); (try clear hb2); (try clear hk); (try clear hi); (try clear ho0)) | ((with_reducible refine gate_dst (N := 8) rfl ?_); (try (refine gate_guard (by rfl) ?_; dsimp only)); refine box_event ?hg (N := 8) ?hd (cs := #[.slice none 0 0, .bool false, .bool false, .int .i64 0]) (t := 26) ?hr ?_; (case hd => rfl); (case hg => rfl); (case hr => first | (go_simp; done) | (go_simp; rfl)); intro gb270 hg w9 hbox hb; have n0_ := Aside0.mk (Kd.V_below (Kd.V_elderB (by (with_reducible repeat (first | apply Kd.V_alloc | apply Kd.V_drewN | apply Kd.V_drew)); exact HO266.out) gb270 (Nat.le_of_eq hg.symm)) hb); have n1_ := Aside0.mk (below_step (by repeat (first | exact HB.out | apply below_alloc | apply pw_below_drewN | apply below_drew1)) hb); have n2_ := Aside0.mk (hbox); have n3_ := Aside0.mk ((by rw [hg]; exact (below_size (by repeat (first | exact HB.out | apply below_alloc | apply pw_below_drewN | apply below_drew1))) : w.heap.size ≤ gb270)); have n4_ := Aside0.mk ((by rw [hg]; exact (below_size (by repeat (first | exact HB.out | apply below_alloc | apply pw_below_drewN | apply below_drew1))) : w.heap.size ≤ gb270)); clear HO266; clear HB; have HO266 := n0_; have HB := n1_; have BK270 := n2_; have GW270 := n3_; have GE270 := n4_; clear n0_ n1_ n2_ n3_ n4_; clear hb hbox hg; obtain ⟨Ao10, co10, eo10⟩ := Kd.V_slice HO266.out; subst eo10; have hcz11_0 : w9.cell? ⟨gb270, 0, none⟩ = some (.slice none 0 0) := (blk_cell BK270.out 0).trans rfl; have hcz11_1 : w9.cell? ⟨gb270, 1, none⟩ = some (.bool false) := (blk_cell BK270.out 1).trans rfl; have hcz11_2 : w9.cell? ⟨gb270, 2, none⟩ = some (.bool false) := (blk_cell BK270.out 2).trans rfl; have hcz11_3 : w9.cell? ⟨gb270, 3, none⟩ = some (.int .i64 0) := (blk_cell BK270.out 3).trans rfl; have hfz11_0 := blk_frozen BK270.out 0; have hfz11_1 := blk_frozen BK270.out 1; have hfz11_2 := blk_frozen BK270.out 2; have hfz11_3 := blk_frozen BK270.out 3))
  go_loopg [10, 11] k (fun kq v10 v11 w' => ∃ (x10_1 : Int) (x11_1 : Int), v10 = .int .i64 x10_1 ∧ v11 = .int .i64 x11_1 ∧ Aside0 (clinkerlaw10_StatesOne.l0 kq true (wrap64 ((Int.tmod (wrap64 (a1)) 8) - 1)) x10_1 x11_1 t264 t267 t268 t269 = some r) ∧ Aside0 (kq ≤ k) ∧ Aside0 (Kd.V k45 45 w' w.heap.size (fun k_ => k_ ≠ gb270) (.slice Ao10 t264.length co10) t264) ∧ Aside0 (w'.heap[gb270]? = some (.cells #[(.slice Ao10 t264.length co10), .bool t267, .bool t268, .int .i64 t269] 26 (0, 0))) ∧ Aside0 (Below w.heap.size w w'))
  case atStart => exact ⟨(0), (0), (by first | rfl | (simp; done) | (simp [*]; done)), (by first | rfl | (simp; done) | (simp [*]; done)), H', ⟨Nat.le_refl _⟩, ⟨by (with_reducible repeat (first | apply Kd.V_alloc | apply Kd.V_drewN | apply Kd.V_drew)); exact Kd.V_mono (Kd.V_far (p := ⟨gb270, 3, none⟩) (Kd.V_far (p := ⟨gb270, 2, none⟩) (Kd.V_far (p := ⟨gb270, 1, none⟩) (Kd.V_far (p := ⟨gb270, 0, none⟩) (Kd.V_mono HO266.out (fun k_ hk => (⟨hk, hk.2⟩ : _ ∧ k_ ≠ gb270))) (fun _ hk => hk.2) _) (fun _ hk => hk.2) (.bool t267)) (fun _ hk => hk.2) (.bool t268)) (fun _ hk => hk.2) _) (fun _ hk => hk.1.2)⟩, ⟨by (with_reducible repeat (first | apply blk_drewN | apply blk_drew | apply blk_alloc)); refine blk_put (cs := #[.slice Ao10 t264.length co10, .bool t267, .bool t268, .int .i64 0]) ?_ 3 _ rfl; (with_reducible repeat (first | apply blk_drewN | apply blk_drew | apply blk_alloc)); refine blk_put (cs := #[.slice Ao10 t264.length co10, .bool t267, .bool false, .int .i64 0]) ?_ 2 _ rfl; (with_reducible repeat (first | apply blk_drewN | apply blk_drew | apply blk_alloc)); refine blk_put (cs := #[.slice Ao10 t264.length co10, .bool false, .bool false, .int .i64 0]) ?_ 1 _ rfl; (with_reducible repeat (first | apply blk_drewN | apply blk_drew | apply blk_alloc)); refine blk_put (cs := #[.slice none 0 0, .bool false, .bool false, .int .i64 0]) ?_ 0 _ rfl; (with_reducible repeat (first | apply blk_drewN | apply blk_drew | apply blk_alloc)); exact BK270.out⟩, ⟨by repeat (first | exact HB.out | apply below_alloc | apply pw_below_drewN | apply below_drew1 | refine below_set ?_ GE270.out)⟩⟩
  case round =>
   clear H'
   try clear p2
   try clear c3
   try clear c5
   try clear c6
   try clear p6
   try clear c7
   try clear hcz11_0
   try clear hcz11_1
   try clear hcz11_2
   try clear hcz11_3
   try clear hfz11_0
   try clear hfz11_1
   try clear hfz11_2
   try clear hfz11_3
   obtain ⟨x10_1, x11_1, rfl, rfl, HA, HK1, HO_271000, BK270, HB⟩ := hrel
   cases gk with
   | zero => exact absurd HA.out (by simp [clinkerlaw10_StatesOne.l0])
   | succ k1 =>
    have H := HA.out
    clear HA
    simp only [clinkerlaw10_StatesOne.l0] at H
    by_cases c12 : x11_1 ≤ 3
    ·
     rw [if_pos c12] at H
     have c12b0 : decide (x11_1 ≤ 3) = true := decide_eq_true c12
     clear c12
     replace H := Option.bind_eq_some_iff.mp H
     obtain ⟨t271, A130, H⟩ := H
     replace H : (clinkerlaw10_StatesOne.l0 k1 true (wrap64 ((Int.tmod (wrap64 (a1)) 8) - 1)) (wrap64 (x10_1 + t271)) (wrap64 (x11_1 + 1)) t264 t267 t268 t269) = some r := H
     have A13 := Aside0.mk A130
     clear A130
     have H' := Aside0.mk H
     clear H
     have hcz14_0 : wr.cell? ⟨gb270, 0, none⟩ = some (.slice Ao10 t264.length co10) := (blk_cell BK270.out 0).trans rfl
     have hcz14_1 : wr.cell? ⟨gb270, 1, none⟩ = some (.bool t267) := (blk_cell BK270.out 1).trans rfl
     have hcz14_2 : wr.cell? ⟨gb270, 2, none⟩ = some (.bool t268) := (blk_cell BK270.out 2).trans rfl
     have hcz14_3 : wr.cell? ⟨gb270, 3, none⟩ = some (.int .i64 t269) := (blk_cell BK270.out 3).trans rfl
     have hfz14_0 := blk_frozen BK270.out 0
     have hfz14_1 := blk_frozen BK270.out 1
     have hfz14_2 := blk_frozen BK270.out 2
     have hfz14_3 := blk_frozen BK270.out 3
     go_wp2_with (first | ((with_reducible refine gate_callee (f := 8) rfl ?_); refine goesL_ (some 36) rfl rfl Try.func8 (by kernel_rfl) rfl #[.agg #[.slice Ao10 t264.length co10, .bool t267, .bool t268, .int .i64 t269], .int .i64 (wrap64 ((Int.tmod (wrap64 (a1)) 8) - 1)), .int .i64 x11_1] rfl (by (try simp only [List.map_toArray, List.map_cons, List.map_nil]); first | done | rfl | (simp only [List.length_drop, List.length_take]; rfl)) ?_; (with_reducible refine (states_Many.calls _ _ t264 t267 t268 t269 (wrap64 ((Int.tmod (wrap64 (a1)) 8) - 1)) x11_1 t271 _ ?side1 ?side2 A13.out).mono ?_); (case side1 => repeat (first | exact (Kd.V_reads' HO_271000.out).2.2 | (with_reducible refine Kd.C_alloc ?_ _) | (with_reducible refine Kd.C_drewN ?_ _) | (with_reducible refine Kd.C_drew ?_))); (case side2 => exact (Kd.V_reads' HO_271000.out).2.1); rintro e w15 ⟨rfl, hb⟩; refine ⟨_, rfl, ?_⟩; have n0_ := Aside0.mk (Kd.V_below (by (with_reducible repeat (first | apply Kd.V_alloc | apply Kd.V_drewN | apply Kd.V_drew)); exact HO_271000.out) hb); have n1_ := Aside0.mk (blk_below (g := gb270) (o := .cells #[.slice Ao10 t264.length co10, .bool t267, .bool t268, .int .i64 t269] 26 (0, 0)) (by (with_reducible repeat (first | apply blk_drewN | apply blk_drew | apply blk_alloc)); exact BK270.out) hb); have n2_ := Aside0.mk (below_step (by repeat (first | exact HB.out | apply below_alloc | apply pw_below_drewN | apply below_drew1 | refine below_set ?_ GE270.out)) hb); clear HO_271000; clear BK270; clear HB; have HO_271000 := n0_; have BK270 := n1_; have HB := n2_; clear n0_ n1_ n2_; (try clear hb); (try clear hb2); (try clear hk); (try clear hi)))
     go_roundg k1
     case measure => have := HK1.out; omega
     case rel => exact ⟨(wrap64 (x10_1 + t271)), (wrap64 (x11_1 + 1)), (by first | rfl | (simp; done) | (simp [*]; done)), (by first | rfl | (simp; done) | (simp [*]; done)), H', ⟨by have := HK1.out; omega⟩, ⟨by (with_reducible repeat (first | apply Kd.V_alloc | apply Kd.V_drewN | apply Kd.V_drew)); exact HO_271000.out⟩, ⟨by (with_reducible repeat (first | apply blk_drewN | apply blk_drew | apply blk_alloc)); exact BK270.out⟩, ⟨by repeat (first | exact HB.out | apply below_alloc | apply pw_below_drewN | apply below_drew1 | refine below_set ?_ GE270.out)⟩⟩
    ·
     rw [if_neg c12] at H
     have c12b0 : decide (x11_1 ≤ 3) = false := decide_eq_false c12
     clear c12
     have H' := Aside0.mk H
     clear H
     go_wp2
     go_loopg [12] k1 (fun kq v12 w' => ∃ (x12_2 : Int), v12 = .int .i64 x12_2 ∧ Aside0 (clinkerlaw10_StatesOne.l1 kq true x10_1 x12_2 t264 t267 t268 t269 = some r) ∧ Aside0 (kq ≤ k1) ∧ Aside0 (Kd.V k45 45 w' w.heap.size (fun k_ => k_ ≠ gb270) (.slice Ao10 t264.length co10) t264) ∧ Aside0 (w'.heap[gb270]? = some (.cells #[(.slice Ao10 t264.length co10), .bool t267, .bool t268, .int .i64 t269] 26 (0, 0))) ∧ Aside0 (Below w.heap.size w w'))
     case atStart => exact ⟨(0), (by first | rfl | (simp; done) | (simp [*]; done)), H', ⟨Nat.le_refl _⟩, ⟨by (with_reducible repeat (first | apply Kd.V_alloc | apply Kd.V_drewN | apply Kd.V_drew)); exact HO_271000.out⟩, ⟨by (with_reducible repeat (first | apply blk_drewN | apply blk_drew | apply blk_alloc)); exact BK270.out⟩, ⟨by repeat (first | exact HB.out | apply below_alloc | apply pw_below_drewN | apply below_drew1 | refine below_set ?_ GE270.out)⟩⟩
     case round =>
      clear H'
      try clear c1
      try clear p2
      try clear c3
      try clear c5
      try clear c6
      try clear p6
      try clear c7
      try clear c8
      try clear c12
      try clear c12b0
      try clear hcz11_0
      try clear hcz11_1
      try clear hcz11_2
      try clear hcz11_3
      try clear hcz14_0
      try clear hcz14_1
      try clear hcz14_2
      try clear hcz14_3
      try clear hfz11_0
      try clear hfz11_1
      try clear hfz11_2
      try clear hfz11_3
      try clear hfz14_0
      try clear hfz14_1
      try clear hfz14_2
      try clear hfz14_3
      try clear p2
      try clear p6
      obtain ⟨x12_2, rfl, HA, HK2, HO_271000, BK270, HB⟩ := hrel
      cases gk with
      | zero => exact absurd HA.out (by simp [clinkerlaw10_StatesOne.l1])
      | succ k2 =>
       have H := HA.out
       clear HA
       simp only [clinkerlaw10_StatesOne.l1] at H
       by_cases c16 : x12_2 < (t264.length : Int)
       ·
        rw [if_pos c16] at H
        have c16b0 : decide (x12_2 < (t264.length : Int)) = true := decide_eq_true c16
        clear c16
        replace H := Option.bind_eq_some_iff.mp H
        obtain ⟨⟨t272, t275, t276, t277, t278⟩, A170, H⟩ := H
        replace H : ((states_State.f t264 t267 t268 t269 (-1) x12_2).bind fun t280 => (if t280 = 2 then (if t278 = 0 then ((states_State.f t272 t275 t276 t277 (-1) x12_2).bind fun t281 => (if t281 = 0 then (clinkerlaw10_StatesOne.l1 k2 true x10_1 (wrap64 (x12_2 + 1)) t264 t267 t268 t269) else (some false))) else (some false)) else (clinkerlaw10_StatesOne.l1 k2 true x10_1 (wrap64 (x12_2 + 1)) t264 t267 t268 t269))) = some r := H
        have A17 := Aside0.mk A170
        clear A170
        replace H := Option.bind_eq_some_iff.mp H
        obtain ⟨t280, A180, H⟩ := H
        replace H : (if t280 = 2 then (if t278 = 0 then ((states_State.f t272 t275 t276 t277 (-1) x12_2).bind fun t281 => (if t281 = 0 then (clinkerlaw10_StatesOne.l1 k2 true x10_1 (wrap64 (x12_2 + 1)) t264 t267 t268 t269) else (some false))) else (some false)) else (clinkerlaw10_StatesOne.l1 k2 true x10_1 (wrap64 (x12_2 + 1)) t264 t267 t268 t269)) = some r := H
        have A18 := Aside0.mk A180
        clear A180
        by_cases c19 : t280 = 2
        ·
         rw [if_pos c19] at H
         have c19b0 : (t280 == 2) = true := beq_iff_eq.mpr c19
         have c19b1 : (t280 != 2) = false := bne_eq_false_iff_eq.mpr c19
         clear c19
         by_cases c20 : t278 = 0
         ·
          rw [if_pos c20] at H
          have c20b0 : (t278 == 0) = true := beq_iff_eq.mpr c20
          have c20b1 : (t278 != 0) = false := bne_eq_false_iff_eq.mpr c20
          clear c20
          replace H := Option.bind_eq_some_iff.mp H
          obtain ⟨t281, A210, H⟩ := H
          replace H : (if t281 = 0 then (clinkerlaw10_StatesOne.l1 k2 true x10_1 (wrap64 (x12_2 + 1)) t264 t267 t268 t269) else (some false)) = some r := H
          have A21 := Aside0.mk A210
          clear A210
          by_cases c22 : t281 = 0
          ·
           rw [if_pos c22] at H
           have c22b0 : (t281 == 0) = true := beq_iff_eq.mpr c22
           have c22b1 : (t281 != 0) = false := bne_eq_false_iff_eq.mpr c22
           clear c22
           have H' := Aside0.mk H
           clear H
           have hcz23_0 : wr.cell? ⟨gb270, 0, none⟩ = some (.slice Ao10 t264.length co10) := (blk_cell BK270.out 0).trans rfl
           have hcz23_1 : wr.cell? ⟨gb270, 1, none⟩ = some (.bool t267) := (blk_cell BK270.out 1).trans rfl
           have hcz23_2 : wr.cell? ⟨gb270, 2, none⟩ = some (.bool t268) := (blk_cell BK270.out 2).trans rfl
           have hcz23_3 : wr.cell? ⟨gb270, 3, none⟩ = some (.int .i64 t269) := (blk_cell BK270.out 3).trans rfl
           have hfz23_0 := blk_frozen BK270.out 0
           have hfz23_1 := blk_frozen BK270.out 1
           have hfz23_2 := blk_frozen BK270.out 2
           have hfz23_3 := blk_frozen BK270.out 3
           go_wp2_with (first | ((with_reducible refine gate_callee (f := 9) rfl ?_); refine goesL_ (some 49) rfl rfl Try.func9 (by kernel_rfl) rfl #[.agg #[.slice Ao10 t264.length co10, .bool t267, .bool t268, .int .i64 t269], .int .i64 x12_2, .agg #[.int .i64 0, .string (⟨#[]⟩ : ByteArray), .string (⟨#[]⟩ : ByteArray), .int .i64 0]] rfl (by (try simp only [List.map_toArray, List.map_cons, List.map_nil]); first | done | rfl | (simp only [List.length_drop, List.length_take]; rfl)) ?_; (with_reducible refine (clinkerref05_Erase.calls _ _ t264 t267 t268 t269 x12_2 0 (⟨#[]⟩ : ByteArray) (⟨#[]⟩ : ByteArray) 0 t272 t275 t276 t277 t278 _ ?side1 ?side2 A17.out).mono ?_); (case side1 => repeat (first | exact (Kd.V_reads' HO_271000.out).2.2 | (with_reducible refine Kd.C_alloc ?_ _) | (with_reducible refine Kd.C_drewN ?_ _) | (with_reducible refine Kd.C_drew ?_))); (case side2 => exact (Kd.V_reads' HO_271000.out).2.1); rintro e w24 ⟨v273, rfl, ho0, hb⟩; refine ⟨_, rfl, ?_⟩; have n0_ := Aside0.mk (Kd.V_below (by (with_reducible repeat (first | apply Kd.V_alloc | apply Kd.V_drewN | apply Kd.V_drew)); exact HO_271000.out) hb); have n1_ := Aside0.mk (Kd.V_lower (Kd.V_mono (ok' := fun k_ => k_ ≠ gb270) ho0 (fun k_ hk_ => (Kd.freshB (g := gb270) (o := .cells #[.slice Ao10 t264.length co10, .bool t267, .bool t268, .int .i64 t269] 26 (0, 0)) (by (with_reducible repeat (first | apply blk_drewN | apply blk_drew | apply blk_alloc)); exact BK270.out) k_ hk_))) (below_size (by repeat (first | exact HB.out | apply below_alloc | apply pw_below_drewN | apply below_drew1 | refine below_set ?_ GE270.out)))); have n2_ := Aside0.mk (blk_below (g := gb270) (o := .cells #[.slice Ao10 t264.length co10, .bool t267, .bool t268, .int .i64 t269] 26 (0, 0)) (by (with_reducible repeat (first | apply blk_drewN | apply blk_drew | apply blk_alloc)); exact BK270.out) hb); have n3_ := Aside0.mk (below_step (by repeat (first | exact HB.out | apply below_alloc | apply pw_below_drewN | apply below_drew1 | refine below_set ?_ GE270.out)) hb); clear HO_271000; clear BK270; clear HB; have HO_271000 := n0_; have HO274 := n1_; have BK270 := n2_; have HB := n3_; clear n0_ n1_ n2_ n3_; (try clear hb); (try clear hb2); (try clear hk); (try clear hi); (try clear ho0)) | ((with_reducible refine gate_dst (N := 13) rfl ?_); (try (refine gate_guard (by rfl) ?_; dsimp only)); refine box_event ?hg (N := 13) ?hd (cs := #[.slice none 0 0, .bool false, .bool false, .int .i64 0]) (t := 26) ?hr ?_; (case hd => rfl); (case hg => rfl); (case hr => first | (go_simp; done) | (go_simp; rfl)); intro gb279 hg w25 hbox hb; have n0_ := Aside0.mk (Kd.V_below (Kd.V_elderB (by (with_reducible repeat (first | apply Kd.V_alloc | apply Kd.V_drewN | apply Kd.V_drew)); exact HO_271000.out) gb279 (Nat.le_of_eq hg.symm)) hb); have n1_ := Aside0.mk (Kd.V_below (Kd.V_elderB (by (with_reducible repeat (first | apply Kd.V_alloc | apply Kd.V_drewN | apply Kd.V_drew)); exact HO274.out) gb279 (Nat.le_of_eq hg.symm)) hb); have n2_ := Aside0.mk (blk_below (g := gb270) (o := .cells #[.slice Ao10 t264.length co10, .bool t267, .bool t268, .int .i64 t269] 26 (0, 0)) (by (with_reducible repeat (first | apply blk_drewN | apply blk_drew | apply blk_alloc)); exact BK270.out) hb); have n3_ := Aside0.mk (below_step (by repeat (first | exact HB.out | apply below_alloc | apply pw_below_drewN | apply below_drew1 | refine below_set ?_ GE270.out)) hb); have n4_ := Aside0.mk (hbox); have n5_ := Aside0.mk ((by rw [hg]; exact (below_size (by repeat (first | exact HB.out | apply below_alloc | apply pw_below_drewN | apply below_drew1 | refine below_set ?_ GE270.out))) : w.heap.size ≤ gb279)); have n6_ := Aside0.mk ((by rw [hg]; exact (below_size (by repeat (first | exact HB.out | apply below_alloc | apply pw_below_drewN | apply below_drew1 | refine below_set ?_ GE270.out))) : w.heap.size ≤ gb279)); have n7_ := Aside0.mk ((by rw [hg]; exact Nat.ne_of_lt (blk_lt (g := gb270) (o := .cells #[.slice Ao10 t264.length co10, .bool t267, .bool t268, .int .i64 t269] 26 (0, 0)) (by (with_reducible repeat (first | apply blk_drewN | apply blk_drew | apply blk_alloc)); exact BK270.out)) : gb270 ≠ gb279)); have n8_ := Aside0.mk ((by rw [hg]; exact Nat.ne_of_gt (blk_lt (g := gb270) (o := .cells #[.slice Ao10 t264.length co10, .bool t267, .bool t268, .int .i64 t269] 26 (0, 0)) (by (with_reducible repeat (first | apply blk_drewN | apply blk_drew | apply blk_alloc)); exact BK270.out)) : gb279 ≠ gb270)); clear HO_271000; clear HO274; clear BK270; clear HB; have HO_271000 := n0_; have HO274 := n1_; have BK270 := n2_; have HB := n3_; have BK279 := n4_; have GW279 := n5_; have GE279 := n6_; have NB270_279 := n7_; have NB279_270 := n8_; clear n0_ n1_ n2_ n3_ n4_ n5_ n6_ n7_ n8_; clear hb hbox hg; obtain ⟨Ao26, co26, eo26⟩ := Kd.V_slice HO274.out; subst eo26; have hnb27 := NB279_270.out; have hnc27 := NB270_279.out; have hcz28_0 : w25.cell? ⟨gb279, 0, none⟩ = some (.slice none 0 0) := (blk_cell BK279.out 0).trans rfl; have hcz28_1 : w25.cell? ⟨gb279, 1, none⟩ = some (.bool false) := (blk_cell BK279.out 1).trans rfl; have hcz28_2 : w25.cell? ⟨gb279, 2, none⟩ = some (.bool false) := (blk_cell BK279.out 2).trans rfl; have hcz28_3 : w25.cell? ⟨gb279, 3, none⟩ = some (.int .i64 0) := (blk_cell BK279.out 3).trans rfl; have hfz28_0 := blk_frozen BK279.out 0; have hfz28_1 := blk_frozen BK279.out 1; have hfz28_2 := blk_frozen BK279.out 2; have hfz28_3 := blk_frozen BK279.out 3; have hcz29_0 : w25.cell? ⟨gb270, 0, none⟩ = some (.slice Ao10 t264.length co10) := (blk_cell BK270.out 0).trans rfl; have hcz29_1 : w25.cell? ⟨gb270, 1, none⟩ = some (.bool t267) := (blk_cell BK270.out 1).trans rfl; have hcz29_2 : w25.cell? ⟨gb270, 2, none⟩ = some (.bool t268) := (blk_cell BK270.out 2).trans rfl; have hcz29_3 : w25.cell? ⟨gb270, 3, none⟩ = some (.int .i64 t269) := (blk_cell BK270.out 3).trans rfl; have hfz29_0 := blk_frozen BK270.out 0; have hfz29_1 := blk_frozen BK270.out 1; have hfz29_2 := blk_frozen BK270.out 2; have hfz29_3 := blk_frozen BK270.out 3) | ((with_reducible refine gate_callee (f := 10) rfl ?_); refine goesL_ (some 54) rfl rfl Try.func10 (by kernel_rfl) rfl #[.agg #[.slice Ao10 t264.length co10, .bool t267, .bool t268, .int .i64 t269], .int .i64 (-1), .int .i64 x12_2] rfl (by (try simp only [List.map_toArray, List.map_cons, List.map_nil]); first | done | rfl | (simp only [List.length_drop, List.length_take]; rfl)) ?_; (with_reducible refine (states_State.calls _ _ t264 t267 t268 t269 (-1) x12_2 t280 _ ?side1 ?side2 A18.out).mono ?_); (case side1 => refine (Kd.V_reads' (e := 45) (base := w.heap.size) (ok := fun k_ => (k_ ≠ gb270 ∧ k_ ≠ gb279)) (n := t264.length) (c := co10) ?_).2.2; exact (by (with_reducible repeat (first | apply Kd.V_alloc | apply Kd.V_drewN | apply Kd.V_drew)); exact (Kd.V_mono (Kd.V_far (p := ⟨gb279, 3, none⟩) (Kd.V_far (p := ⟨gb279, 2, none⟩) (Kd.V_far (p := ⟨gb279, 1, none⟩) (Kd.V_far (p := ⟨gb279, 0, none⟩) (Kd.V_mono HO_271000.out (fun k_ hk => (⟨hk, hk.2⟩ : _ ∧ k_ ≠ gb279))) (fun _ hk => hk.2) _) (fun _ hk => hk.2) (.bool t275)) (fun _ hk => hk.2) (.bool t276)) (fun _ hk => hk.2) _) (fun _ h_ => h_.1)))); (case side2 => exact (Kd.V_reads' HO_271000.out).2.1); rintro e w30 ⟨rfl, hb⟩; refine ⟨_, rfl, ?_⟩; have n0_ := Aside0.mk (Kd.V_below (by (with_reducible repeat (first | apply Kd.V_alloc | apply Kd.V_drewN | apply Kd.V_drew)); exact (Kd.V_mono (Kd.V_far (p := ⟨gb279, 3, none⟩) (Kd.V_far (p := ⟨gb279, 2, none⟩) (Kd.V_far (p := ⟨gb279, 1, none⟩) (Kd.V_far (p := ⟨gb279, 0, none⟩) (Kd.V_mono HO_271000.out (fun k_ hk => (⟨hk, hk.2⟩ : _ ∧ k_ ≠ gb279))) (fun _ hk => hk.2) _) (fun _ hk => hk.2) (.bool t275)) (fun _ hk => hk.2) (.bool t276)) (fun _ hk => hk.2) _) (fun _ h_ => h_.1))) hb); have n1_ := Aside0.mk (Kd.V_below (by (with_reducible repeat (first | apply Kd.V_alloc | apply Kd.V_drewN | apply Kd.V_drew)); exact (Kd.V_mono (Kd.V_far (p := ⟨gb279, 3, none⟩) (Kd.V_far (p := ⟨gb279, 2, none⟩) (Kd.V_far (p := ⟨gb279, 1, none⟩) (Kd.V_far (p := ⟨gb279, 0, none⟩) (Kd.V_mono HO274.out (fun k_ hk => (⟨hk, hk.2⟩ : _ ∧ k_ ≠ gb279))) (fun _ hk => hk.2) _) (fun _ hk => hk.2) (.bool t275)) (fun _ hk => hk.2) (.bool t276)) (fun _ hk => hk.2) _) (fun _ h_ => h_.1))) hb); have n2_ := Aside0.mk (blk_below (g := gb270) (o := .cells #[.slice Ao10 t264.length co10, .bool t267, .bool t268, .int .i64 t269] 26 (0, 0)) (by (with_reducible repeat (first | apply blk_drewN | apply blk_drew | apply blk_alloc)); refine blk_far ?_ NB270_279.out _; (with_reducible repeat (first | apply blk_drewN | apply blk_drew | apply blk_alloc)); refine blk_far ?_ NB270_279.out _; (with_reducible repeat (first | apply blk_drewN | apply blk_drew | apply blk_alloc)); refine blk_far ?_ NB270_279.out _; (with_reducible repeat (first | apply blk_drewN | apply blk_drew | apply blk_alloc)); refine blk_far ?_ NB270_279.out _; (with_reducible repeat (first | apply blk_drewN | apply blk_drew | apply blk_alloc)); exact BK270.out) hb); have n3_ := Aside0.mk (blk_below (g := gb279) (o := .cells #[.slice Ao26 t272.length co26, .bool t275, .bool t276, .int .i64 t277] 26 (0, 0)) (by (with_reducible repeat (first | apply blk_drewN | apply blk_drew | apply blk_alloc)); refine blk_put (cs := #[.slice Ao26 t272.length co26, .bool t275, .bool t276, .int .i64 0]) ?_ 3 _ rfl; (with_reducible repeat (first | apply blk_drewN | apply blk_drew | apply blk_alloc)); refine blk_put (cs := #[.slice Ao26 t272.length co26, .bool t275, .bool false, .int .i64 0]) ?_ 2 _ rfl; (with_reducible repeat (first | apply blk_drewN | apply blk_drew | apply blk_alloc)); refine blk_put (cs := #[.slice Ao26 t272.length co26, .bool false, .bool false, .int .i64 0]) ?_ 1 _ rfl; (with_reducible repeat (first | apply blk_drewN | apply blk_drew | apply blk_alloc)); refine blk_put (cs := #[.slice none 0 0, .bool false, .bool false, .int .i64 0]) ?_ 0 _ rfl; (with_reducible repeat (first | apply blk_drewN | apply blk_drew | apply blk_alloc)); exact BK279.out) hb); have n4_ := Aside0.mk (below_step (by repeat (first | (with_reducible first | exact HB.out | apply below_alloc | apply pw_below_drewN | apply below_drew1 | refine below_set ?_ GE270.out | refine below_set ?_ GE279.out) | exact HB.out)) hb); clear HO_271000; clear HO274; clear BK270; clear BK279; clear HB; have HO_271000 := n0_; have HO274 := n1_; have BK270 := n2_; have BK279 := n3_; have HB := n4_; clear n0_ n1_ n2_ n3_ n4_; (try clear hb); (try clear hb2); (try clear hk); (try clear hi); have hcz31_0 : w30.cell? ⟨gb279, 0, none⟩ = some (.slice Ao26 t272.length co26) := (blk_cell BK279.out 0).trans rfl; have hcz31_1 : w30.cell? ⟨gb279, 1, none⟩ = some (.bool t275) := (blk_cell BK279.out 1).trans rfl; have hcz31_2 : w30.cell? ⟨gb279, 2, none⟩ = some (.bool t276) := (blk_cell BK279.out 2).trans rfl; have hcz31_3 : w30.cell? ⟨gb279, 3, none⟩ = some (.int .i64 t277) := (blk_cell BK279.out 3).trans rfl; have hfz31_0 := blk_frozen BK279.out 0; have hfz31_1 := blk_frozen BK279.out 1; have hfz31_2 := blk_frozen BK279.out 2; have hfz31_3 := blk_frozen BK279.out 3) | (go_at_call 10; (with_reducible refine (states_State.calls _ _ t272 t275 t276 t277 (-1) x12_2 t281 _ ?side1 ?side2 A21.out).mono ?_); (case side1 => repeat (first | exact (Kd.V_reads' HO274.out).2.2 | (with_reducible refine Kd.C_alloc ?_ _) | (with_reducible refine Kd.C_drewN ?_ _) | (with_reducible refine Kd.C_drew ?_))); (case side2 => exact (Kd.V_reads' HO274.out).2.1); rintro e w32 ⟨rfl, hb⟩; have n0_ := Aside0.mk (Kd.V_below (by (with_reducible repeat (first | apply Kd.V_alloc | apply Kd.V_drewN | apply Kd.V_drew)); exact HO_271000.out) hb); have n1_ := Aside0.mk (Kd.V_below (by (with_reducible repeat (first | apply Kd.V_alloc | apply Kd.V_drewN | apply Kd.V_drew)); exact HO274.out) hb); have n2_ := Aside0.mk (blk_below (g := gb270) (o := .cells #[.slice Ao10 t264.length co10, .bool t267, .bool t268, .int .i64 t269] 26 (0, 0)) (by (with_reducible repeat (first | apply blk_drewN | apply blk_drew | apply blk_alloc)); exact BK270.out) hb); have n3_ := Aside0.mk (blk_below (g := gb279) (o := .cells #[.slice Ao26 t272.length co26, .bool t275, .bool t276, .int .i64 t277] 26 (0, 0)) (by (with_reducible repeat (first | apply blk_drewN | apply blk_drew | apply blk_alloc)); exact BK279.out) hb); have n4_ := Aside0.mk (below_step (by repeat (first | (with_reducible first | exact HB.out | apply below_alloc | apply pw_below_drewN | apply below_drew1 | refine below_set ?_ GE270.out | refine below_set ?_ GE279.out) | exact HB.out)) hb); clear HO_271000; clear HO274; clear BK270; clear BK279; clear HB; have HO_271000 := n0_; have HO274 := n1_; have BK270 := n2_; have BK279 := n3_; have HB := n4_; clear n0_ n1_ n2_ n3_ n4_; (try clear hb); (try clear hb2); (try clear hk); (try clear hi)))
           go_roundg k2
           case measure => have := HK1.out; have := HK2.out; omega
           case rel => exact ⟨(wrap64 (x12_2 + 1)), (by first | rfl | (simp; done) | (simp [*]; done)), H', ⟨by have := HK1.out; have := HK2.out; omega⟩, ⟨by (with_reducible repeat (first | apply Kd.V_alloc | apply Kd.V_drewN | apply Kd.V_drew)); exact Kd.V_mono HO_271000.out (fun _ hk => hk.1)⟩, ⟨by (with_reducible repeat (first | apply blk_drewN | apply blk_drew | apply blk_alloc)); exact BK270.out⟩, ⟨by repeat (first | (with_reducible first | exact HB.out | apply below_alloc | apply pw_below_drewN | apply below_drew1 | refine below_set ?_ GE270.out | refine below_set ?_ GE279.out) | exact HB.out)⟩⟩
          ·
           rw [if_neg c22] at H
           have c22b0 : (t281 == 0) = false := beq_eq_false_iff_ne.mpr c22
           have c22b1 : (t281 != 0) = true := bne_iff_ne.mpr c22
           exact absurd (H.trans (congrArg some hrt.out)) (by simp)
         ·
          rw [if_neg c20] at H
          have c20b0 : (t278 == 0) = false := beq_eq_false_iff_ne.mpr c20
          have c20b1 : (t278 != 0) = true := bne_iff_ne.mpr c20
          exact absurd (H.trans (congrArg some hrt.out)) (by simp)
        ·
         rw [if_neg c19] at H
         have c19b0 : (t280 == 2) = false := beq_eq_false_iff_ne.mpr c19
         have c19b1 : (t280 != 2) = true := bne_iff_ne.mpr c19
         have H' := Aside0.mk H
         clear H
         have hcz51_0 : wr.cell? ⟨gb270, 0, none⟩ = some (.slice Ao10 t264.length co10) := (blk_cell BK270.out 0).trans rfl
         have hcz51_1 : wr.cell? ⟨gb270, 1, none⟩ = some (.bool t267) := (blk_cell BK270.out 1).trans rfl
         have hcz51_2 : wr.cell? ⟨gb270, 2, none⟩ = some (.bool t268) := (blk_cell BK270.out 2).trans rfl
         have hcz51_3 : wr.cell? ⟨gb270, 3, none⟩ = some (.int .i64 t269) := (blk_cell BK270.out 3).trans rfl
         have hfz51_0 := blk_frozen BK270.out 0
         have hfz51_1 := blk_frozen BK270.out 1
         have hfz51_2 := blk_frozen BK270.out 2
         have hfz51_3 := blk_frozen BK270.out 3
         go_wp2_with (first | ((with_reducible refine gate_callee (f := 9) rfl ?_); refine goesL_ (some 49) rfl rfl Try.func9 (by kernel_rfl) rfl #[.agg #[.slice Ao10 t264.length co10, .bool t267, .bool t268, .int .i64 t269], .int .i64 x12_2, .agg #[.int .i64 0, .string (⟨#[]⟩ : ByteArray), .string (⟨#[]⟩ : ByteArray), .int .i64 0]] rfl (by (try simp only [List.map_toArray, List.map_cons, List.map_nil]); first | done | rfl | (simp only [List.length_drop, List.length_take]; rfl)) ?_; (with_reducible refine (clinkerref05_Erase.calls _ _ t264 t267 t268 t269 x12_2 0 (⟨#[]⟩ : ByteArray) (⟨#[]⟩ : ByteArray) 0 t272 t275 t276 t277 t278 _ ?side1 ?side2 A17.out).mono ?_); (case side1 => repeat (first | exact (Kd.V_reads' HO_271000.out).2.2 | (with_reducible refine Kd.C_alloc ?_ _) | (with_reducible refine Kd.C_drewN ?_ _) | (with_reducible refine Kd.C_drew ?_))); (case side2 => exact (Kd.V_reads' HO_271000.out).2.1); rintro e w52 ⟨v273, rfl, ho0, hb⟩; refine ⟨_, rfl, ?_⟩; have n0_ := Aside0.mk (Kd.V_below (by (with_reducible repeat (first | apply Kd.V_alloc | apply Kd.V_drewN | apply Kd.V_drew)); exact HO_271000.out) hb); have n1_ := Aside0.mk (Kd.V_lower (Kd.V_mono (ok' := fun k_ => k_ ≠ gb270) ho0 (fun k_ hk_ => (Kd.freshB (g := gb270) (o := .cells #[.slice Ao10 t264.length co10, .bool t267, .bool t268, .int .i64 t269] 26 (0, 0)) (by (with_reducible repeat (first | apply blk_drewN | apply blk_drew | apply blk_alloc)); exact BK270.out) k_ hk_))) (below_size (by repeat (first | exact HB.out | apply below_alloc | apply pw_below_drewN | apply below_drew1 | refine below_set ?_ GE270.out)))); have n2_ := Aside0.mk (blk_below (g := gb270) (o := .cells #[.slice Ao10 t264.length co10, .bool t267, .bool t268, .int .i64 t269] 26 (0, 0)) (by (with_reducible repeat (first | apply blk_drewN | apply blk_drew | apply blk_alloc)); exact BK270.out) hb); have n3_ := Aside0.mk (below_step (by repeat (first | exact HB.out | apply below_alloc | apply pw_below_drewN | apply below_drew1 | refine below_set ?_ GE270.out)) hb); clear HO_271000; clear BK270; clear HB; have HO_271000 := n0_; have HO274 := n1_; have BK270 := n2_; have HB := n3_; clear n0_ n1_ n2_ n3_; (try clear hb); (try clear hb2); (try clear hk); (try clear hi); (try clear ho0)) | ((with_reducible refine gate_dst (N := 13) rfl ?_); (try (refine gate_guard (by rfl) ?_; dsimp only)); refine box_event ?hg (N := 13) ?hd (cs := #[.slice none 0 0, .bool false, .bool false, .int .i64 0]) (t := 26) ?hr ?_; (case hd => rfl); (case hg => rfl); (case hr => first | (go_simp; done) | (go_simp; rfl)); intro gb279 hg w53 hbox hb; have n0_ := Aside0.mk (Kd.V_below (Kd.V_elderB (by (with_reducible repeat (first | apply Kd.V_alloc | apply Kd.V_drewN | apply Kd.V_drew)); exact HO_271000.out) gb279 (Nat.le_of_eq hg.symm)) hb); have n1_ := Aside0.mk (Kd.V_below (Kd.V_elderB (by (with_reducible repeat (first | apply Kd.V_alloc | apply Kd.V_drewN | apply Kd.V_drew)); exact HO274.out) gb279 (Nat.le_of_eq hg.symm)) hb); have n2_ := Aside0.mk (blk_below (g := gb270) (o := .cells #[.slice Ao10 t264.length co10, .bool t267, .bool t268, .int .i64 t269] 26 (0, 0)) (by (with_reducible repeat (first | apply blk_drewN | apply blk_drew | apply blk_alloc)); exact BK270.out) hb); have n3_ := Aside0.mk (below_step (by repeat (first | exact HB.out | apply below_alloc | apply pw_below_drewN | apply below_drew1 | refine below_set ?_ GE270.out)) hb); have n4_ := Aside0.mk (hbox); have n5_ := Aside0.mk ((by rw [hg]; exact (below_size (by repeat (first | exact HB.out | apply below_alloc | apply pw_below_drewN | apply below_drew1 | refine below_set ?_ GE270.out))) : w.heap.size ≤ gb279)); have n6_ := Aside0.mk ((by rw [hg]; exact (below_size (by repeat (first | exact HB.out | apply below_alloc | apply pw_below_drewN | apply below_drew1 | refine below_set ?_ GE270.out))) : w.heap.size ≤ gb279)); have n7_ := Aside0.mk ((by rw [hg]; exact Nat.ne_of_lt (blk_lt (g := gb270) (o := .cells #[.slice Ao10 t264.length co10, .bool t267, .bool t268, .int .i64 t269] 26 (0, 0)) (by (with_reducible repeat (first | apply blk_drewN | apply blk_drew | apply blk_alloc)); exact BK270.out)) : gb270 ≠ gb279)); have n8_ := Aside0.mk ((by rw [hg]; exact Nat.ne_of_gt (blk_lt (g := gb270) (o := .cells #[.slice Ao10 t264.length co10, .bool t267, .bool t268, .int .i64 t269] 26 (0, 0)) (by (with_reducible repeat (first | apply blk_drewN | apply blk_drew | apply blk_alloc)); exact BK270.out)) : gb279 ≠ gb270)); clear HO_271000; clear HO274; clear BK270; clear HB; have HO_271000 := n0_; have HO274 := n1_; have BK270 := n2_; have HB := n3_; have BK279 := n4_; have GW279 := n5_; have GE279 := n6_; have NB270_279 := n7_; have NB279_270 := n8_; clear n0_ n1_ n2_ n3_ n4_ n5_ n6_ n7_ n8_; clear hb hbox hg; obtain ⟨Ao54, co54, eo54⟩ := Kd.V_slice HO274.out; subst eo54; have hnb55 := NB279_270.out; have hnc55 := NB270_279.out; have hcz56_0 : w53.cell? ⟨gb279, 0, none⟩ = some (.slice none 0 0) := (blk_cell BK279.out 0).trans rfl; have hcz56_1 : w53.cell? ⟨gb279, 1, none⟩ = some (.bool false) := (blk_cell BK279.out 1).trans rfl; have hcz56_2 : w53.cell? ⟨gb279, 2, none⟩ = some (.bool false) := (blk_cell BK279.out 2).trans rfl; have hcz56_3 : w53.cell? ⟨gb279, 3, none⟩ = some (.int .i64 0) := (blk_cell BK279.out 3).trans rfl; have hfz56_0 := blk_frozen BK279.out 0; have hfz56_1 := blk_frozen BK279.out 1; have hfz56_2 := blk_frozen BK279.out 2; have hfz56_3 := blk_frozen BK279.out 3; have hcz57_0 : w53.cell? ⟨gb270, 0, none⟩ = some (.slice Ao10 t264.length co10) := (blk_cell BK270.out 0).trans rfl; have hcz57_1 : w53.cell? ⟨gb270, 1, none⟩ = some (.bool t267) := (blk_cell BK270.out 1).trans rfl; have hcz57_2 : w53.cell? ⟨gb270, 2, none⟩ = some (.bool t268) := (blk_cell BK270.out 2).trans rfl; have hcz57_3 : w53.cell? ⟨gb270, 3, none⟩ = some (.int .i64 t269) := (blk_cell BK270.out 3).trans rfl; have hfz57_0 := blk_frozen BK270.out 0; have hfz57_1 := blk_frozen BK270.out 1; have hfz57_2 := blk_frozen BK270.out 2; have hfz57_3 := blk_frozen BK270.out 3) | ((with_reducible refine gate_callee (f := 10) rfl ?_); refine goesL_ (some 54) rfl rfl Try.func10 (by kernel_rfl) rfl #[.agg #[.slice Ao10 t264.length co10, .bool t267, .bool t268, .int .i64 t269], .int .i64 (-1), .int .i64 x12_2] rfl (by (try simp only [List.map_toArray, List.map_cons, List.map_nil]); first | done | rfl | (simp only [List.length_drop, List.length_take]; rfl)) ?_; (with_reducible refine (states_State.calls _ _ t264 t267 t268 t269 (-1) x12_2 t280 _ ?side1 ?side2 A18.out).mono ?_); (case side1 => refine (Kd.V_reads' (e := 45) (base := w.heap.size) (ok := fun k_ => (k_ ≠ gb270 ∧ k_ ≠ gb279)) (n := t264.length) (c := co10) ?_).2.2; exact (by (with_reducible repeat (first | apply Kd.V_alloc | apply Kd.V_drewN | apply Kd.V_drew)); exact (Kd.V_mono (Kd.V_far (p := ⟨gb279, 3, none⟩) (Kd.V_far (p := ⟨gb279, 2, none⟩) (Kd.V_far (p := ⟨gb279, 1, none⟩) (Kd.V_far (p := ⟨gb279, 0, none⟩) (Kd.V_mono HO_271000.out (fun k_ hk => (⟨hk, hk.2⟩ : _ ∧ k_ ≠ gb279))) (fun _ hk => hk.2) _) (fun _ hk => hk.2) (.bool t275)) (fun _ hk => hk.2) (.bool t276)) (fun _ hk => hk.2) _) (fun _ h_ => h_.1)))); (case side2 => exact (Kd.V_reads' HO_271000.out).2.1); rintro e w58 ⟨rfl, hb⟩; refine ⟨_, rfl, ?_⟩; have n0_ := Aside0.mk (Kd.V_below (by (with_reducible repeat (first | apply Kd.V_alloc | apply Kd.V_drewN | apply Kd.V_drew)); exact (Kd.V_mono (Kd.V_far (p := ⟨gb279, 3, none⟩) (Kd.V_far (p := ⟨gb279, 2, none⟩) (Kd.V_far (p := ⟨gb279, 1, none⟩) (Kd.V_far (p := ⟨gb279, 0, none⟩) (Kd.V_mono HO_271000.out (fun k_ hk => (⟨hk, hk.2⟩ : _ ∧ k_ ≠ gb279))) (fun _ hk => hk.2) _) (fun _ hk => hk.2) (.bool t275)) (fun _ hk => hk.2) (.bool t276)) (fun _ hk => hk.2) _) (fun _ h_ => h_.1))) hb); have n1_ := Aside0.mk (Kd.V_below (by (with_reducible repeat (first | apply Kd.V_alloc | apply Kd.V_drewN | apply Kd.V_drew)); exact (Kd.V_mono (Kd.V_far (p := ⟨gb279, 3, none⟩) (Kd.V_far (p := ⟨gb279, 2, none⟩) (Kd.V_far (p := ⟨gb279, 1, none⟩) (Kd.V_far (p := ⟨gb279, 0, none⟩) (Kd.V_mono HO274.out (fun k_ hk => (⟨hk, hk.2⟩ : _ ∧ k_ ≠ gb279))) (fun _ hk => hk.2) _) (fun _ hk => hk.2) (.bool t275)) (fun _ hk => hk.2) (.bool t276)) (fun _ hk => hk.2) _) (fun _ h_ => h_.1))) hb); have n2_ := Aside0.mk (blk_below (g := gb270) (o := .cells #[.slice Ao10 t264.length co10, .bool t267, .bool t268, .int .i64 t269] 26 (0, 0)) (by (with_reducible repeat (first | apply blk_drewN | apply blk_drew | apply blk_alloc)); refine blk_far ?_ NB270_279.out _; (with_reducible repeat (first | apply blk_drewN | apply blk_drew | apply blk_alloc)); refine blk_far ?_ NB270_279.out _; (with_reducible repeat (first | apply blk_drewN | apply blk_drew | apply blk_alloc)); refine blk_far ?_ NB270_279.out _; (with_reducible repeat (first | apply blk_drewN | apply blk_drew | apply blk_alloc)); refine blk_far ?_ NB270_279.out _; (with_reducible repeat (first | apply blk_drewN | apply blk_drew | apply blk_alloc)); exact BK270.out) hb); have n3_ := Aside0.mk (blk_below (g := gb279) (o := .cells #[.slice Ao54 t272.length co54, .bool t275, .bool t276, .int .i64 t277] 26 (0, 0)) (by (with_reducible repeat (first | apply blk_drewN | apply blk_drew | apply blk_alloc)); refine blk_put (cs := #[.slice Ao54 t272.length co54, .bool t275, .bool t276, .int .i64 0]) ?_ 3 _ rfl; (with_reducible repeat (first | apply blk_drewN | apply blk_drew | apply blk_alloc)); refine blk_put (cs := #[.slice Ao54 t272.length co54, .bool t275, .bool false, .int .i64 0]) ?_ 2 _ rfl; (with_reducible repeat (first | apply blk_drewN | apply blk_drew | apply blk_alloc)); refine blk_put (cs := #[.slice Ao54 t272.length co54, .bool false, .bool false, .int .i64 0]) ?_ 1 _ rfl; (with_reducible repeat (first | apply blk_drewN | apply blk_drew | apply blk_alloc)); refine blk_put (cs := #[.slice none 0 0, .bool false, .bool false, .int .i64 0]) ?_ 0 _ rfl; (with_reducible repeat (first | apply blk_drewN | apply blk_drew | apply blk_alloc)); exact BK279.out) hb); have n4_ := Aside0.mk (below_step (by repeat (first | (with_reducible first | exact HB.out | apply below_alloc | apply pw_below_drewN | apply below_drew1 | refine below_set ?_ GE270.out | refine below_set ?_ GE279.out) | exact HB.out)) hb); clear HO_271000; clear HO274; clear BK270; clear BK279; clear HB; have HO_271000 := n0_; have HO274 := n1_; have BK270 := n2_; have BK279 := n3_; have HB := n4_; clear n0_ n1_ n2_ n3_ n4_; (try clear hb); (try clear hb2); (try clear hk); (try clear hi)))
         go_roundg k2
         case measure => have := HK1.out; have := HK2.out; omega
         case rel => exact ⟨(wrap64 (x12_2 + 1)), (by first | rfl | (simp; done) | (simp [*]; done)), H', ⟨by have := HK1.out; have := HK2.out; omega⟩, ⟨by (with_reducible repeat (first | apply Kd.V_alloc | apply Kd.V_drewN | apply Kd.V_drew)); exact Kd.V_mono HO_271000.out (fun _ hk => hk.1)⟩, ⟨by (with_reducible repeat (first | apply blk_drewN | apply blk_drew | apply blk_alloc)); exact BK270.out⟩, ⟨by repeat (first | (with_reducible first | exact HB.out | apply below_alloc | apply pw_below_drewN | apply below_drew1 | refine below_set ?_ GE270.out | refine below_set ?_ GE279.out) | exact HB.out)⟩⟩
       ·
        rw [if_neg c16] at H
        have c16b0 : decide (x12_2 < (t264.length : Int)) = false := decide_eq_false c16
        clear c16
        replace H : (some (x10_1 == (t264.length : Int))) = some r := by first | exact H | (rw [if_pos rfl] at H; exact H) | simpa using H
        obtain rfl := Option.some.inj H
        have hcz59_0 : wr.cell? ⟨gb270, 0, none⟩ = some (.slice Ao10 t264.length co10) := (blk_cell BK270.out 0).trans rfl
        have hcz59_1 : wr.cell? ⟨gb270, 1, none⟩ = some (.bool t267) := (blk_cell BK270.out 1).trans rfl
        have hcz59_2 : wr.cell? ⟨gb270, 2, none⟩ = some (.bool t268) := (blk_cell BK270.out 2).trans rfl
        have hcz59_3 : wr.cell? ⟨gb270, 3, none⟩ = some (.int .i64 t269) := (blk_cell BK270.out 3).trans rfl
        have hfz59_0 := blk_frozen BK270.out 0
        have hfz59_1 := blk_frozen BK270.out 1
        have hfz59_2 := blk_frozen BK270.out 2
        have hfz59_3 := blk_frozen BK270.out 3
        go_wp2
        go_ret
        exact ⟨by first | rfl | (simp [errW_none, errW_some] <;> rfl) | (simp [*, errW_none, errW_some] <;> rfl), by repeat (first | exact HB.out | apply below_alloc | apply pw_below_drewN | apply below_drew1 | refine below_set ?_ GE270.out)⟩
 ·
  replace c5 := Bool.eq_false_iff.mpr c5
  subst c5
  have H1 : (some false) = some r := by rw [if_neg (show ¬ (false = true) by decide)] at H; exact H
  clear H
  have H := H1
  clear H1
  exact absurd (H.trans (congrArg some hrt.out)) (by simp)

/-- THE ONE PURE STATEMENT of clinkerlaw10_StatesOne: yours. -/
def clinkerlaw10_StatesOne.Pure : Prop := ∀ (l0 : List Int) (a1 : Int) (a2 : Int), l0.length ≤ maxLen → l0.length * 2 ≤ 140737488351232 → (∀ x ∈ l0, (Lit.int .u16 x).wf = true) → (Lit.int .u8 a1).wf = true → (Lit.int .u8 a2).wf = true → ∃ k, clinkerlaw10_StatesOne.f k l0 a1 a2 = some true
theorem clinkerlaw10_StatesOne.walk (P : clinkerlaw10_StatesOne.Pure) (a0 : Option Addr) (len0 cap0 : Nat) (z0 : List Int) (a1 : Int) (a2 : Int) (w : World) (w0 : (a0 = none ∧ len0 = 0 ∧ cap0 = 0 ∧ z0 = []) ∨ ∃ x, a0 = some x ∧ len0 ≤ cap0 ∧ cap0 ≤ maxLen ∧ z0.length = cap0 ∧ (∀ i, i < z0.length → w.cell? (x.add i) = some (.int .u16 (z0.getD i 0))) ∧ ∀ n ∈ z0, (Lit.int .u16 n).wf = true) (y0 : len0 * 2 ≤ 140737488351232) (w1 : (Lit.int .u8 a1).wf = true) (w2 : (Lit.int .u8 a2).wf = true) :
  Calls Try.prog 3 #[.slice a0 len0 cap0, .int .u8 a1, .int .u8 a2] w fun e w' => e = .returned (.bool true) ∧ Below w.heap.size w w' := by
 obtain ⟨l0, rfl, hr0, hm0, hw0, hc0⟩ := ReadsInt.ofRowC w0
 obtain ⟨k, h⟩ := P l0 a1 a2 hm0 y0 hw0 w1 w2
 refine (clinkerlaw10_StatesOne.calls k _ _ l0 a1 a2 true ⟨rfl⟩ w (Kd.C_of_reads (d := (0 : Int)) (h1 := fun _ => rfl) hr0) hc0 h).mono ?_
 rintro e w' ⟨rfl, hd⟩
 exact ⟨rfl, hd⟩

end Go.Proofs.Ytnbhkogjamdfhaa.PAll
