/- Written by a program of this session (wip/xp) out of the translation: functions in plain Lean, and proofs that the calls come to these. -/
import Derived.Test.YtnbhkogjamdfhaaPAllx0
import Derived.Test.YtnbhkogjamdfhaaPAllx8
import Derived.Test.YtnbhkogjamdfhaaPAllx9
import Derived.Test.YtnbhkogjamdfhaaPAllx14
namespace Go.Proofs.Ytnbhkogjamdfhaa.PAll
open Go.RowKit Go.Proofs.YtnbhkogjamdfhaaW.PrintWords Go.Proofs.YtnbhkogjamdfhaaW.PrintLast Go.Proofs.YtnbhkogjamdfhaaW.PrintMore
attribute [local go_sem] max2_int min2_int max_two min_two max_three min_three max_four min_four   -- for this text's walks alone
set_option linter.unusedVariables false
set_option linter.unusedSimpArgs false

/-! ### clinkerlaw10_StatesWear: function 5 -/
def clinkerlaw10_StatesWear.f (k : Nat) (l0 : List Int) (a1 : Int) (a2 : Int) : Option (Bool) := (clinkerlaw10_awake.f k).bind fun t282 => (if t282 = true then ((clinkerlaw06_Made.f k l0 (wrap64 (1 + (Int.tmod (wrap64 (a1)) 6))) 4).bind fun bt283 => (if (bt283.1.length : Int) = 0 then (none) else ((clinkerref05_Erase.f bt283.1 bt283.2.1 bt283.2.2.1 bt283.2.2.2 (Int.tmod (wrap64 (a2)) (bt283.1.length : Int)) 0 (⟨#[]⟩ : ByteArray) (⟨#[]⟩ : ByteArray) 0).bind fun bt290 => ((states_Wear.f k bt283.1 bt283.2.1 bt283.2.2.1 bt283.2.2.2).bind fun bt298 => ((states_Wear.f k bt290.1 bt290.2.1 bt290.2.2.1 bt290.2.2.2.1).bind fun bt300 => (if bt290.2.2.2.2 = 0 then (if bt298.1 ≤ bt298.2 then (if bt300.1 ≥ bt298.1 then (if bt300.1 ≤ (wrap64 (bt298.1 + 1)) then (if bt300.2 ≥ bt298.2 then (if bt300.2 ≤ (wrap64 (bt298.2 + 1)) then (some (decide (bt300.1 ≤ bt300.2))) else (some false)) else (some false)) else (some false)) else (some false)) else (some false)) else (if bt298.1 = bt300.1 then (some (bt298.2 == bt300.2)) else (some false)))))))) else (some false))
theorem clinkerlaw10_StatesWear.mono : ∀ a0 a1 a2 k, LeO (clinkerlaw10_StatesWear.f k a0 a1 a2) (clinkerlaw10_StatesWear.f (k + 1) a0 a1 a2) := by
 intro a0 a1 a2 k
 unfold clinkerlaw10_StatesWear.f
 repeat' first
   | (with_reducible exact clinkerlaw06_Made.mono _ _ _ _)
   | (with_reducible exact clinkerlaw10_awake.mono _)
   | (with_reducible exact states_Wear.mono _ _ _ _ _)
   | (with_reducible exact LeO.refl _)
   | (with_reducible exact LeO.none _)
   | (with_reducible refine LeO.ite ?_ ?_)
   | (with_reducible refine LeO.bind ?_ (fun _ => ?_))
   | exact clinkerlaw06_Made.mono _ _ _ _
   | exact clinkerlaw10_awake.mono _
   | exact states_Wear.mono _ _ _ _ _
   | exact LeO.none _
   | refine LeO.ite ?_ ?_
   | refine LeO.bind ?_ (fun _ => ?_)
def clinkerlaw10_StatesWear.T5 : Bool × List (List Nat × List Nat) := (true, [([], []), ([], []), ([1], [1]), ([], []), ([3], [3]), ([4], [4]), ([2, 5], [2, 5]), ([], []), ([0, 6, 7], [0, 6, 7]), ([8], [8]), ([9], [9]), ([9], [9]), ([], []), ([12, 10, 8, 0, 1, 2, 3, 4, 5, 6, 7, 8, 9, 10, 12], [10, 12]), ([11, 13, 0, 1, 2, 3, 4, 5, 6, 7, 8, 9, 10, 11, 12, 13], [11])])
def clinkerlaw10_StatesWear.B5 : List Nat := [0, 0, 2, 0, 8, 24, 62, 0, 255, 511, 1023, 1023, 0, 6143, 16383]
theorem clinkerlaw10_StatesWear.tab5 : rtab .any (opsOf Try.f5 5) = clinkerlaw10_StatesWear.T5 := by kernel_rfl
theorem clinkerlaw10_StatesWear.bits5 : waitsOk clinkerlaw10_StatesWear.T5.2 clinkerlaw10_StatesWear.B5 = true := by kernel_rfl
set_option maxHeartbeats 8000000 in
set_option maxRecDepth 100000 in
theorem clinkerlaw10_StatesWear.calls (k : Nat) (A0 : Option Addr) (c0 : Nat) (l0 : List Int) (a1 : Int) (a2 : Int) (r : Bool) (hrt : Aside0 (r = true)) (w : World) (hr0 : Kd.C (Kd.int .u16) w A0 l0.length l0) (hc0 : l0.length ≤ c0) (h : clinkerlaw10_StatesWear.f k l0 a1 a2 = some r) :
  Calls Try.prog 5 #[.slice A0 l0.length c0, .int .u8 a1, .int .u8 a2] w fun e w' => e = .returned (.bool r) ∧ Below w.heap.size w w' := by
 have hu26 := Try.underlying26
 have hu33 := Try.underlying33
 have HR0 := Aside0.mk hr0
 have HC0 := Aside0.mk hc0
 clear hr0 hc0
 have HB := Aside0.mk (Below.refl w.heap.size w)
 have H : ((clinkerlaw10_awake.f k).bind fun t282 => (if t282 = true then ((clinkerlaw06_Made.f k l0 (wrap64 (1 + (Int.tmod (wrap64 (a1)) 6))) 4).bind fun bt283 => (if (bt283.1.length : Int) = 0 then (none) else ((clinkerref05_Erase.f bt283.1 bt283.2.1 bt283.2.2.1 bt283.2.2.2 (Int.tmod (wrap64 (a2)) (bt283.1.length : Int)) 0 (⟨#[]⟩ : ByteArray) (⟨#[]⟩ : ByteArray) 0).bind fun bt290 => ((states_Wear.f k bt283.1 bt283.2.1 bt283.2.2.1 bt283.2.2.2).bind fun bt298 => ((states_Wear.f k bt290.1 bt290.2.1 bt290.2.2.1 bt290.2.2.2.1).bind fun bt300 => (if bt290.2.2.2.2 = 0 then (if bt298.1 ≤ bt298.2 then (if bt300.1 ≥ bt298.1 then (if bt300.1 ≤ (wrap64 (bt298.1 + 1)) then (if bt300.2 ≥ bt298.2 then (if bt300.2 ≤ (wrap64 (bt298.2 + 1)) then (some (decide (bt300.1 ≤ bt300.2))) else (some false)) else (some false)) else (some false)) else (some false)) else (some false)) else (if bt298.1 = bt300.1 then (some (bt298.2 == bt300.2)) else (some false)))))))) else (some false))) = some r := h
 clear h
 replace H := Option.bind_eq_some_iff.mp H
 obtain ⟨t282, A40, H⟩ := H
 replace H : (if t282 = true then ((clinkerlaw06_Made.f k l0 (wrap64 (1 + (Int.tmod (wrap64 (a1)) 6))) 4).bind fun bt283 => (if (bt283.1.length : Int) = 0 then (none) else ((clinkerref05_Erase.f bt283.1 bt283.2.1 bt283.2.2.1 bt283.2.2.2 (Int.tmod (wrap64 (a2)) (bt283.1.length : Int)) 0 (⟨#[]⟩ : ByteArray) (⟨#[]⟩ : ByteArray) 0).bind fun bt290 => ((states_Wear.f k bt283.1 bt283.2.1 bt283.2.2.1 bt283.2.2.2).bind fun bt298 => ((states_Wear.f k bt290.1 bt290.2.1 bt290.2.2.1 bt290.2.2.2.1).bind fun bt300 => (if bt290.2.2.2.2 = 0 then (if bt298.1 ≤ bt298.2 then (if bt300.1 ≥ bt298.1 then (if bt300.1 ≤ (wrap64 (bt298.1 + 1)) then (if bt300.2 ≥ bt298.2 then (if bt300.2 ≤ (wrap64 (bt298.2 + 1)) then (some (decide (bt300.1 ≤ bt300.2))) else (some false)) else (some false)) else (some false)) else (some false)) else (some false)) else (if bt298.1 = bt300.1 then (some (bt298.2 == bt300.2)) else (some false)))))))) else (some false)) = some r := H
 have A4 := Aside0.mk A40
 clear A40
 by_cases c5 : t282 = true
 ·
  subst c5
  have H1 : ((clinkerlaw06_Made.f k l0 (wrap64 (1 + (Int.tmod (wrap64 (a1)) 6))) 4).bind fun bt283 => (if (bt283.1.length : Int) = 0 then (none) else ((clinkerref05_Erase.f bt283.1 bt283.2.1 bt283.2.2.1 bt283.2.2.2 (Int.tmod (wrap64 (a2)) (bt283.1.length : Int)) 0 (⟨#[]⟩ : ByteArray) (⟨#[]⟩ : ByteArray) 0).bind fun bt290 => ((states_Wear.f k bt283.1 bt283.2.1 bt283.2.2.1 bt283.2.2.2).bind fun bt298 => ((states_Wear.f k bt290.1 bt290.2.1 bt290.2.2.1 bt290.2.2.2.1).bind fun bt300 => (if bt290.2.2.2.2 = 0 then (if bt298.1 ≤ bt298.2 then (if bt300.1 ≥ bt298.1 then (if bt300.1 ≤ (wrap64 (bt298.1 + 1)) then (if bt300.2 ≥ bt298.2 then (if bt300.2 ≤ (wrap64 (bt298.2 + 1)) then (some (decide (bt300.1 ≤ bt300.2))) else (some false)) else (some false)) else (some false)) else (some false)) else (some false)) else (if bt298.1 = bt300.1 then (some (bt298.2 == bt300.2)) else (some false)))))))) = some r := by rw [if_pos rfl] at H; exact H
  clear H
  have H := H1
  clear H1
  replace H := Option.bind_eq_some_iff.mp H
  obtain ⟨⟨t283, t286, t287, t288⟩, A60, H⟩ := H
  replace H : (if (t283.length : Int) = 0 then (none) else ((clinkerref05_Erase.f t283 t286 t287 t288 (Int.tmod (wrap64 (a2)) (t283.length : Int)) 0 (⟨#[]⟩ : ByteArray) (⟨#[]⟩ : ByteArray) 0).bind fun bt290 => ((states_Wear.f k t283 t286 t287 t288).bind fun bt298 => ((states_Wear.f k bt290.1 bt290.2.1 bt290.2.2.1 bt290.2.2.2.1).bind fun bt300 => (if bt290.2.2.2.2 = 0 then (if bt298.1 ≤ bt298.2 then (if bt300.1 ≥ bt298.1 then (if bt300.1 ≤ (wrap64 (bt298.1 + 1)) then (if bt300.2 ≥ bt298.2 then (if bt300.2 ≤ (wrap64 (bt298.2 + 1)) then (some (decide (bt300.1 ≤ bt300.2))) else (some false)) else (some false)) else (some false)) else (some false)) else (some false)) else (if bt298.1 = bt300.1 then (some (bt298.2 == bt300.2)) else (some false))))))) = some r := H
  have A6 := Aside0.mk A60
  clear A60
  by_cases c7 : (t283.length : Int) = 0
  ·
   rw [if_pos c7] at H
   exact absurd H (by simp)
  ·
   rw [if_neg c7] at H
   have c7b0 : ((t283.length : Int) == 0) = false := beq_eq_false_iff_ne.mpr c7
   have c7b1 : ((t283.length : Int) != 0) = true := bne_iff_ne.mpr c7
   have c7b2 : ¬ (t283 = []) := fun h_ => c7 (by rw [h_]; rfl)
   replace H := Option.bind_eq_some_iff.mp H
   obtain ⟨⟨t290, t293, t294, t295, t296⟩, A80, H⟩ := H
   replace H : ((states_Wear.f k t283 t286 t287 t288).bind fun bt298 => ((states_Wear.f k t290 t293 t294 t295).bind fun bt300 => (if t296 = 0 then (if bt298.1 ≤ bt298.2 then (if bt300.1 ≥ bt298.1 then (if bt300.1 ≤ (wrap64 (bt298.1 + 1)) then (if bt300.2 ≥ bt298.2 then (if bt300.2 ≤ (wrap64 (bt298.2 + 1)) then (some (decide (bt300.1 ≤ bt300.2))) else (some false)) else (some false)) else (some false)) else (some false)) else (some false)) else (if bt298.1 = bt300.1 then (some (bt298.2 == bt300.2)) else (some false))))) = some r := H
   have A8 := Aside0.mk A80
   clear A80
   replace H := Option.bind_eq_some_iff.mp H
   obtain ⟨⟨t298, t299⟩, A90, H⟩ := H
   replace H : ((states_Wear.f k t290 t293 t294 t295).bind fun bt300 => (if t296 = 0 then (if t298 ≤ t299 then (if bt300.1 ≥ t298 then (if bt300.1 ≤ (wrap64 (t298 + 1)) then (if bt300.2 ≥ t299 then (if bt300.2 ≤ (wrap64 (t299 + 1)) then (some (decide (bt300.1 ≤ bt300.2))) else (some false)) else (some false)) else (some false)) else (some false)) else (some false)) else (if t298 = bt300.1 then (some (t299 == bt300.2)) else (some false)))) = some r := H
   have A9 := Aside0.mk A90
   clear A90
   replace H := Option.bind_eq_some_iff.mp H
   obtain ⟨⟨t300, t301⟩, A100, H⟩ := H
   replace H : (if t296 = 0 then (if t298 ≤ t299 then (if t300 ≥ t298 then (if t300 ≤ (wrap64 (t298 + 1)) then (if t301 ≥ t299 then (if t301 ≤ (wrap64 (t299 + 1)) then (some (decide (t300 ≤ t301))) else (some false)) else (some false)) else (some false)) else (some false)) else (some false)) else (if t298 = t300 then (some (t299 == t301)) else (some false))) = some r := H
   have A10 := Aside0.mk A100
   clear A100
   by_cases c11 : t296 = 0
   ·
    rw [if_pos c11] at H
    have c11b0 : (t296 == 0) = true := beq_iff_eq.mpr c11
    have c11b1 : (t296 != 0) = false := bne_eq_false_iff_eq.mpr c11
    clear c11
    by_cases c12 : t298 ≤ t299
    ·
     rw [if_pos c12] at H
     have c12b0 : decide (t298 ≤ t299) = true := decide_eq_true c12
     clear c12
     by_cases c13 : t300 ≥ t298
     ·
      rw [if_pos c13] at H
      have c13b0 : decide (t298 ≤ t300) = true := decide_eq_true c13
      clear c13
      by_cases c14 : t300 ≤ (wrap64 (t298 + 1))
      ·
       rw [if_pos c14] at H
       have c14b0 : decide (t300 ≤ (wrap64 (t298 + 1))) = true := decide_eq_true c14
       clear c14
       by_cases c15 : t301 ≥ t299
       ·
        rw [if_pos c15] at H
        have c15b0 : decide (t299 ≤ t301) = true := decide_eq_true c15
        clear c15
        by_cases c16 : t301 ≤ (wrap64 (t299 + 1))
        ·
         rw [if_pos c16] at H
         have c16b0 : decide (t301 ≤ (wrap64 (t299 + 1))) = true := decide_eq_true c16
         clear c16
         obtain rfl := Option.some.inj H
         go_enter Try.func5, Try.ntmps5
         try go_wp2_with (first | ((with_reducible refine gate_callee (f := 6) rfl ?_); refine goesL_ (some 15) rfl rfl Try.func6 (by kernel_rfl) rfl #[] rfl (by (try simp only [List.map_toArray, List.map_cons, List.map_nil]); first | done | rfl | (simp only [List.length_drop, List.length_take]; rfl)) ?_; (with_reducible refine (clinkerlaw10_awake.calls k  true _ A4.out).mono ?_); rintro e w17 ⟨rfl, hb⟩; refine ⟨_, rfl, ?_⟩; have n0_ := Aside0.mk (below_step (by repeat (first | exact HB.out | apply below_alloc | apply pw_below_drewN | apply below_drew1)) hb); clear HB; have HB := n0_; clear n0_; (try clear hb); (try clear hb2); (try clear hk); (try clear hi)) | ((with_reducible refine gate_callee (f := 7) rfl ?_); refine goesL_ (some 23) rfl rfl Try.func7 (by kernel_rfl) rfl #[.slice A0 l0.length c0, .int .i64 (wrap64 (1 + (Int.tmod (wrap64 (a1)) 6))), .int .i64 4] rfl (by (try simp only [List.map_toArray, List.map_cons, List.map_nil]); first | done | rfl | (simp only [List.length_drop, List.length_take]; rfl)) ?_; (with_reducible refine (clinkerlaw06_Made.calls k _ _ l0 (wrap64 (1 + (Int.tmod (wrap64 (a1)) 6))) 4 t283 t286 t287 t288 _ ?side1 ?side2 A6.out).mono ?_); (case side1 => repeat (first | exact (Kd.C_below HR0.out HB.out) | (with_reducible refine Kd.C_alloc ?_ _) | (with_reducible refine Kd.C_drewN ?_ _) | (with_reducible refine Kd.C_drew ?_))); (case side2 => exact HC0.out); rintro e w18 ⟨v284, rfl, ho0, hb⟩; refine ⟨_, rfl, ?_⟩; have n0_ := Aside0.mk (Kd.V_lower (Kd.V_mono (ok' := fun k_ => True) ho0 (fun k_ hk_ => trivial)) (below_size (by repeat (first | exact HB.out | apply below_alloc | apply pw_below_drewN | apply below_drew1)))); have n1_ := Aside0.mk (below_step (by repeat (first | exact HB.out | apply below_alloc | apply pw_below_drewN | apply below_drew1)) hb); clear HB; have HO285 := n0_; have HB := n1_; clear n0_ n1_; (try clear hb); (try clear hb2); (try clear hk); (try clear hi); (try clear ho0)) | ((with_reducible refine gate_dst (N := 8) rfl ?_); refine box_event ?hg (N := 8) ?hd (cs := #[.slice none 0 0, .bool false, .bool false, .int .i64 0]) (t := 26) ?hr ?_; (case hd => rfl); (case hg => rfl); (case hr => first | (go_simp; done) | (go_simp; rfl)); intro gb289 hg w19 hbox hb; have n0_ := Aside0.mk (Kd.V_below (Kd.V_elderB (by (with_reducible repeat (first | apply Kd.V_alloc | apply Kd.V_drewN | apply Kd.V_drew)); exact HO285.out) gb289 (Nat.le_of_eq hg.symm)) hb); have n1_ := Aside0.mk (below_step (by repeat (first | exact HB.out | apply below_alloc | apply pw_below_drewN | apply below_drew1)) hb); have n2_ := Aside0.mk (hbox); have n3_ := Aside0.mk ((by rw [hg]; exact (below_size (by repeat (first | exact HB.out | apply below_alloc | apply pw_below_drewN | apply below_drew1))) : w.heap.size ≤ gb289)); have n4_ := Aside0.mk ((by rw [hg]; exact (below_size (by repeat (first | exact HB.out | apply below_alloc | apply pw_below_drewN | apply below_drew1))) : w.heap.size ≤ gb289)); clear HO285; clear HB; have HO285 := n0_; have HB := n1_; have BK289 := n2_; have GW289 := n3_; have GE289 := n4_; clear n0_ n1_ n2_ n3_ n4_; clear hb hbox hg; obtain ⟨Ao20, co20, eo20⟩ := Kd.V_slice HO285.out; subst eo20; have hcz21_0 : w19.cell? ⟨gb289, 0, none⟩ = some (.slice none 0 0) := (blk_cell BK289.out 0).trans rfl; have hcz21_1 : w19.cell? ⟨gb289, 1, none⟩ = some (.bool false) := (blk_cell BK289.out 1).trans rfl; have hcz21_2 : w19.cell? ⟨gb289, 2, none⟩ = some (.bool false) := (blk_cell BK289.out 2).trans rfl; have hcz21_3 : w19.cell? ⟨gb289, 3, none⟩ = some (.int .i64 0) := (blk_cell BK289.out 3).trans rfl; have hfz21_0 := blk_frozen BK289.out 0; have hfz21_1 := blk_frozen BK289.out 1; have hfz21_2 := blk_frozen BK289.out 2; have hfz21_3 := blk_frozen BK289.out 3))
         have n0_ : Aside0 (Kd.V k45 45 ((((w19.setCell ⟨gb289, 0, none⟩ (.slice Ao20 t283.length co20)).setCell ⟨gb289, 1, none⟩ (.bool t286)).setCell ⟨gb289, 2, none⟩ (.bool t287)).setCell ⟨gb289, 3, none⟩ (.int .i64 t288)) w.heap.size (fun k_ => k_ ≠ gb289) (.slice Ao20 t283.length co20) t283) := ⟨by (with_reducible repeat (first | apply Kd.V_alloc | apply Kd.V_drewN | apply Kd.V_drew)); exact Kd.V_mono (Kd.V_far (p := ⟨gb289, 3, none⟩) (Kd.V_far (p := ⟨gb289, 2, none⟩) (Kd.V_far (p := ⟨gb289, 1, none⟩) (Kd.V_far (p := ⟨gb289, 0, none⟩) (Kd.V_mono HO285.out (fun k_ hk => (⟨hk, hk.2⟩ : _ ∧ k_ ≠ gb289))) (fun _ hk => hk.2) _) (fun _ hk => hk.2) (.bool t286)) (fun _ hk => hk.2) (.bool t287)) (fun _ hk => hk.2) _) (fun _ hk => hk.1.2)⟩
         have n1_ : Aside0 (((((w19.setCell ⟨gb289, 0, none⟩ (.slice Ao20 t283.length co20)).setCell ⟨gb289, 1, none⟩ (.bool t286)).setCell ⟨gb289, 2, none⟩ (.bool t287)).setCell ⟨gb289, 3, none⟩ (.int .i64 t288)).heap[gb289]? = some (.cells #[.slice Ao20 t283.length co20, .bool t286, .bool t287, .int .i64 t288] 26 (0, 0))) := ⟨by (with_reducible repeat (first | apply blk_drewN | apply blk_drew | apply blk_alloc)); refine blk_put (cs := #[.slice Ao20 t283.length co20, .bool t286, .bool t287, .int .i64 0]) ?_ 3 _ rfl; (with_reducible repeat (first | apply blk_drewN | apply blk_drew | apply blk_alloc)); refine blk_put (cs := #[.slice Ao20 t283.length co20, .bool t286, .bool false, .int .i64 0]) ?_ 2 _ rfl; (with_reducible repeat (first | apply blk_drewN | apply blk_drew | apply blk_alloc)); refine blk_put (cs := #[.slice Ao20 t283.length co20, .bool false, .bool false, .int .i64 0]) ?_ 1 _ rfl; (with_reducible repeat (first | apply blk_drewN | apply blk_drew | apply blk_alloc)); refine blk_put (cs := #[.slice none 0 0, .bool false, .bool false, .int .i64 0]) ?_ 0 _ rfl; (with_reducible repeat (first | apply blk_drewN | apply blk_drew | apply blk_alloc)); exact BK289.out⟩
         have n2_ : Aside0 (Below w.heap.size w ((((w19.setCell ⟨gb289, 0, none⟩ (.slice Ao20 t283.length co20)).setCell ⟨gb289, 1, none⟩ (.bool t286)).setCell ⟨gb289, 2, none⟩ (.bool t287)).setCell ⟨gb289, 3, none⟩ (.int .i64 t288))) := ⟨by repeat (first | exact HB.out | apply below_alloc | apply pw_below_drewN | apply below_drew1 | refine below_set ?_ GE289.out)⟩
         (try clear HO285)
         (try clear BK289)
         (try clear HB)
         generalize ((((w19.setCell ⟨gb289, 0, none⟩ (.slice Ao20 t283.length co20)).setCell ⟨gb289, 1, none⟩ (.bool t286)).setCell ⟨gb289, 2, none⟩ (.bool t287)).setCell ⟨gb289, 3, none⟩ (.int .i64 t288)) = w22 at n0_ n1_ n2_ ⊢
         have HO285 := n0_
         have BK289 := n1_
         have HB := n2_
         clear n0_ n1_ n2_
         have n0_ := Aside0.mk (Kd.V_drew HO285.out)
         have n1_ := Aside0.mk (blk_drew BK289.out)
         have n2_ := Aside0.mk (below_drew1 HB.out)
         clear HO285
         clear BK289
         clear HB
         have HO285 := n0_
         have BK289 := n1_
         have HB := n2_
         clear n0_ n1_ n2_
         refine start_ (n := 15) (S := fun w' => w'.cell? ⟨gb289, 0, none⟩ = some (.slice Ao20 t283.length co20) ∧ w'.cell? ⟨gb289, 1, none⟩ = some (.bool t286) ∧ w'.cell? ⟨gb289, 2, none⟩ = some (.bool t287) ∧ w'.cell? ⟨gb289, 3, none⟩ = some (.int .i64 t288)) (ds := []) #[false, false, false, false, false, false, false, false, false, false, false, false, false, false, false] (by kernel_rfl) rfl rfl ⟨(blk_cell BK289.out 0).trans rfl, (blk_cell BK289.out 1).trans rfl, (blk_cell BK289.out 2).trans rfl, (blk_cell BK289.out 3).trans rfl⟩ (fun hHeld => ?_); refine with_tabW clinkerlaw10_StatesWear.tab5 clinkerlaw10_StatesWear.bits5 (fun HT_ HW_ => ?_)
         generalize w22.drew = w23 at HO285 BK289 HB hHeld ⊢
         refine pure_ (i := 1) (N := some 26) (v := ?_) (a' := ?_) #[false, true, false, false, false, false, false, false, false, false, false, false, false, false, false] rfl rfl (any_of HT_.out (by kernel_rfl)) (fun _ _ _ h => h) (Or.inl ⟨by rfl, ?_⟩) ?_ ?_
         rotate_left
         ·
          intro w'
          go_simp
          with_reducible rfl
         rotate_left
         ·
          simp only [Act.put, List.setIfInBounds_toArray, List.set_cons_zero, List.set_cons_succ, i64_w, i32_w]
          rfl
         refine pure_ (i := 2) (N := some 27) (v := ?_) (a' := ?_) #[false, true, true, false, false, false, false, false, false, false, false, false, false, false, false] rfl rfl (any_of HT_.out (by kernel_rfl)) (fun _ _ _ h => h) (Or.inl ⟨by rfl, ?_⟩) ?_ ?_
         rotate_left
         ·
          intro w'
          go_simp
          with_reducible rfl
         rotate_left
         ·
          simp only [Act.put, List.setIfInBounds_toArray, List.set_cons_zero, List.set_cons_succ, i64_w, i32_w]
          rfl
         refine pure_ (i := 3) (N := some 28) (v := ?_) (a' := ?_) #[false, true, true, true, false, false, false, false, false, false, false, false, false, false, false] rfl rfl (any_of HT_.out (by kernel_rfl)) (fun _ _ _ h => h) (Or.inl ⟨by rfl, ?_⟩) ?_ ?_
         rotate_left
         ·
          intro w'
          go_simp
          with_reducible rfl
         rotate_left
         ·
          simp only [Act.put, List.setIfInBounds_toArray, List.set_cons_zero, List.set_cons_succ, i64_w, i32_w]
          rfl
         refine pure_ (i := 7) (N := some 32) (v := ?_) (a' := ?_) #[false, true, true, true, false, false, false, true, false, false, false, false, false, false, false] rfl rfl (any_of HT_.out (by kernel_rfl)) (fun _ _ _ h => h) (Or.inl ⟨by rfl, ?_⟩) ?_ ?_
         rotate_left
         ·
          intro w'
          go_simp
          with_reducible rfl
         rotate_left
         ·
          simp only [Act.put, List.setIfInBounds_toArray, List.set_cons_zero, List.set_cons_succ, i64_w, i32_w]
          rfl
         refine take_ (i := 0) (N := some 25) (v := ?_) (a' := ?_) #[true, true, true, true, false, false, false, true, false, false, false, false, false, false, false] rfl rfl (take_ofW HT_.out HW_.out (by kernel_rfl)) (fun _ _ _ h => h) (Or.inl ⟨by rfl, ?_⟩) hHeld ?_ ?_
         rotate_left
         ·
          rintro w' ⟨s0, s1, s2, s3⟩
          go_simp
          with_reducible rfl
         rotate_left
         ·
          simp only [Act.put, List.setIfInBounds_toArray, List.set_cons_zero, List.set_cons_succ, i64_w, i32_w]
          rfl
         refine take_ (i := 4) (N := some 29) (v := ?_) (a' := ?_) #[true, true, true, true, true, false, false, true, false, false, false, false, false, false, false] rfl rfl (take_ofW HT_.out HW_.out (by kernel_rfl)) (fun _ _ _ h => h) (Or.inl ⟨by rfl, ?_⟩) hHeld ?_ ?_
         rotate_left
         ·
          rintro w' ⟨s0, s1, s2, s3⟩
          go_simp
          with_reducible rfl
         rotate_left
         ·
          simp only [Act.put, List.setIfInBounds_toArray, List.set_cons_zero, List.set_cons_succ, i64_w, i32_w]
          rfl
         refine pure_ (i := 5) (N := some 30) (v := ?_) (a' := ?_) #[true, true, true, true, true, true, false, true, false, false, false, false, false, false, false] rfl rfl (any_of HT_.out (by kernel_rfl)) (fun _ _ _ h => h) (Or.inl ⟨by rfl, ?_⟩) ?_ ?_
         rotate_left
         ·
          intro w'
          go_simp
          with_reducible rfl
         rotate_left
         ·
          simp only [Act.put, List.setIfInBounds_toArray, List.set_cons_zero, List.set_cons_succ, i64_w, i32_w]
          rfl
         refine pure_ (i := 6) (N := some 31) (v := ?_) (a' := ?_) #[true, true, true, true, true, true, true, true, false, false, false, false, false, false, false] rfl rfl (any_of HT_.out (by kernel_rfl)) (fun _ _ _ h => h) (Or.inl ⟨by rfl, ?_⟩) ?_ ?_
         rotate_left
         ·
          intro w'
          go_simp
          with_reducible rfl
         rotate_left
         ·
          simp only [Act.put, List.setIfInBounds_toArray, List.set_cons_zero, List.set_cons_succ, i64_w, i32_w]
          rfl
         refine join_ (σ := Value × Nat) 2 #[true, true, true, true, true, true, true, true, true, true, true, true, true, false, false] (fun s_ => [(33, .tuple #[.agg #[s_.1, .bool t293, .bool t294, .int .i64 t295], .int .i64 t296]), (9, .pointer (some ⟨s_.2, 0, none⟩)), (24, .tuple #[.agg #[s_.1, .bool t293, .bool t294, .int .i64 t295], .int .i64 t296]), (34, .agg #[s_.1, .bool t293, .bool t294, .int .i64 t295]), (35, .int .i64 t296)]) (fun s_ w' => (w'.cell? ⟨gb289, 0, none⟩ = some (.slice Ao20 t283.length co20) ∧ w'.cell? ⟨gb289, 1, none⟩ = some (.bool t286) ∧ w'.cell? ⟨gb289, 2, none⟩ = some (.bool t287) ∧ w'.cell? ⟨gb289, 3, none⟩ = some (.int .i64 t288)) ∧ (Kd.V k45 45 w' w.heap.size (fun k_ => k_ ≠ gb289 ∧ k_ ≠ s_.2) (.slice Ao20 t283.length co20) t283) ∧ (Kd.V k45 45 w' w.heap.size (fun k_ => k_ ≠ gb289 ∧ k_ ≠ s_.2) s_.1 t290) ∧ (w'.heap[gb289]? = some (.cells #[.slice Ao20 t283.length co20, .bool t286, .bool t287, .int .i64 t288] 26 (0, 0))) ∧ (w'.heap[s_.2]? = some (.cells #[.slice none 0 0, .bool false, .bool false, .int .i64 0] 26 (0, 0))) ∧ (w.heap.size ≤ s_.2) ∧ (w.heap.size ≤ s_.2) ∧ (gb289 ≠ s_.2) ∧ (s_.2 ≠ gb289) ∧ (Below w.heap.size w w')) ?_ ?_
         rotate_left
         ·
          intro hCont
          refine two_ (i := 8) (j := 12) (Ni := some 33) (Nj := some 9) #[true, true, true, true, true, true, true, true, true, false, false, false, false, false, false] #[true, true, true, true, true, true, true, true, false, false, false, false, true, false, false] rfl rfl rfl rfl (two_of HT_.out (by kernel_rfl)) (by decide) (by decide) (fun K hK => ?_) (fun K hK => ?_)
          ·
           skip
           refine goes_ Try.func9 (by kernel_rfl) rfl #[.agg #[.slice Ao20 t283.length co20, .bool t286, .bool t287, .int .i64 t288], .int .i64 (Int.tmod (wrap64 (a2)) (t283.length : Int)), .agg #[.int .i64 0, .string (⟨#[]⟩ : ByteArray), .string (⟨#[]⟩ : ByteArray), .int .i64 0]] (by rfl) rfl rfl (by (try simp only [List.map_toArray, List.map_cons, List.map_nil]); first | done | rfl | (simp only [List.length_drop, List.length_take]; rfl)) ?_
           with_reducible refine (clinkerref05_Erase.calls _ _ t283 t286 t287 t288 (Int.tmod (wrap64 (a2)) (t283.length : Int)) 0 (⟨#[]⟩ : ByteArray) (⟨#[]⟩ : ByteArray) 0 t290 t293 t294 t295 t296 _ ?side1 ?side2 A8.out).mono ?_
           (case side1 => repeat (first | exact (Kd.V_reads' HO285.out).2.2 | (with_reducible refine Kd.C_alloc ?_ _) | (with_reducible refine Kd.C_drewN ?_ _) | (with_reducible refine Kd.C_drew ?_)))
           (case side2 => exact (Kd.V_reads' HO285.out).2.1)
           rintro e w24 ⟨v291, rfl, ho0, hb⟩
           refine ⟨_, rfl, ?_⟩
           have n0_ := Aside0.mk (Kd.V_below (by (with_reducible repeat (first | apply Kd.V_alloc | apply Kd.V_drewN | apply Kd.V_drew)); exact HO285.out) hb)
           have n1_ := Aside0.mk (Kd.V_lower (Kd.V_mono (ok' := fun k_ => k_ ≠ gb289) ho0 (fun k_ hk_ => (Kd.freshB (g := gb289) (o := .cells #[.slice Ao20 t283.length co20, .bool t286, .bool t287, .int .i64 t288] 26 (0, 0)) (by (with_reducible repeat (first | apply blk_drewN | apply blk_drew | apply blk_alloc)); exact BK289.out) k_ hk_))) (below_size (by repeat (first | exact HB.out | apply below_alloc | apply pw_below_drewN | apply below_drew1 | refine below_set ?_ GE289.out))))
           have n2_ := Aside0.mk (blk_below (g := gb289) (o := .cells #[.slice Ao20 t283.length co20, .bool t286, .bool t287, .int .i64 t288] 26 (0, 0)) (by (with_reducible repeat (first | apply blk_drewN | apply blk_drew | apply blk_alloc)); exact BK289.out) hb)
           have n3_ := Aside0.mk (below_step (by repeat (first | exact HB.out | apply below_alloc | apply pw_below_drewN | apply below_drew1 | refine below_set ?_ GE289.out)) hb)
           clear HO285
           clear BK289
           clear HB
           have HO285 := n0_
           have HO292 := n1_
           have BK289 := n2_
           have HB := n3_
           clear n0_ n1_ n2_ n3_
           (try clear hb)
           (try clear hb2)
           (try clear hk)
           (try clear hi)
           (try clear ho0)
           refine hK.out _ _ ⟨(blk_cell BK289.out 0).trans rfl, (blk_cell BK289.out 1).trans rfl, (blk_cell BK289.out 2).trans rfl, (blk_cell BK289.out 3).trans rfl⟩ (fun hHeld => ?_)
           clear hK K
           refine norm_ (a' := ?_) ?_ ?_
           rotate_left
           ·
            show Act.put _ (some 33) _ = _
            simp only [Act.put, List.setIfInBounds_toArray, List.set_cons_zero, List.set_cons_succ, i64_w, i32_w]
            rfl
           refine pure_ (i := 9) (N := some 24) (v := ?_) (a' := ?_) #[true, true, true, true, true, true, true, true, true, true, false, false, false, false, false] rfl rfl (any_of HT_.out (by kernel_rfl)) (fun _ _ _ h => h) (Or.inl ⟨by rfl, ?_⟩) ?_ ?_
           rotate_left
           ·
            intro w'
            go_simp
            with_reducible rfl
           rotate_left
           ·
            simp only [Act.put, List.setIfInBounds_toArray, List.set_cons_zero, List.set_cons_succ, i64_w, i32_w]
            rfl
           refine pure_ (i := 10) (N := some 34) (v := ?_) (a' := ?_) #[true, true, true, true, true, true, true, true, true, true, true, false, false, false, false] rfl rfl (any_of HT_.out (by kernel_rfl)) (fun _ _ _ h => h) (Or.inl ⟨by rfl, ?_⟩) ?_ ?_
           rotate_left
           ·
            intro w'
            go_simp
            with_reducible rfl
           rotate_left
           ·
            simp only [Act.put, List.setIfInBounds_toArray, List.set_cons_zero, List.set_cons_succ, i64_w, i32_w]
            rfl
           refine pure_ (i := 11) (N := some 35) (v := ?_) (a' := ?_) #[true, true, true, true, true, true, true, true, true, true, true, true, false, false, false] rfl rfl (any_of HT_.out (by kernel_rfl)) (fun _ _ _ h => h) (Or.inl ⟨by rfl, ?_⟩) ?_ ?_
           rotate_left
           ·
            intro w'
            go_simp
            with_reducible rfl
           rotate_left
           ·
            simp only [Act.put, List.setIfInBounds_toArray, List.set_cons_zero, List.set_cons_succ, i64_w, i32_w]
            rfl
           refine one_ (i := 12) (N := some 9) #[true, true, true, true, true, true, true, true, true, true, true, true, true, false, false] rfl rfl (one_of HT_.out (by kernel_rfl)) (by decide) (fun K hK => ?_)
           refine box_step ?hg (N := 9) ?hd (cs := #[.slice none 0 0, .bool false, .bool false, .int .i64 0]) (t := 26) ?hr ?_; (case hd => rfl); (case hg => rfl); (case hr => first | (go_simp; done) | (go_simp; rfl))
           intro gb297 hg w25 hbox hb
           have n0_ := Aside0.mk (Kd.V_below (Kd.V_elderB (by (with_reducible repeat (first | apply Kd.V_alloc | apply Kd.V_drewN | apply Kd.V_drew)); exact HO285.out) gb297 (Nat.le_of_eq hg.symm)) hb)
           have n1_ := Aside0.mk (Kd.V_below (Kd.V_elderB (by (with_reducible repeat (first | apply Kd.V_alloc | apply Kd.V_drewN | apply Kd.V_drew)); exact HO292.out) gb297 (Nat.le_of_eq hg.symm)) hb)
           have n2_ := Aside0.mk (blk_below (g := gb289) (o := .cells #[.slice Ao20 t283.length co20, .bool t286, .bool t287, .int .i64 t288] 26 (0, 0)) (by (with_reducible repeat (first | apply blk_drewN | apply blk_drew | apply blk_alloc)); exact BK289.out) hb)
           have n3_ := Aside0.mk (below_step (by repeat (first | exact HB.out | apply below_alloc | apply pw_below_drewN | apply below_drew1 | refine below_set ?_ GE289.out)) hb)
           have n4_ := Aside0.mk (hbox)
           have n5_ := Aside0.mk ((by rw [hg]; exact (below_size (by repeat (first | exact HB.out | apply below_alloc | apply pw_below_drewN | apply below_drew1 | refine below_set ?_ GE289.out))) : w.heap.size ≤ gb297))
           have n6_ := Aside0.mk ((by rw [hg]; exact (below_size (by repeat (first | exact HB.out | apply below_alloc | apply pw_below_drewN | apply below_drew1 | refine below_set ?_ GE289.out))) : w.heap.size ≤ gb297))
           have n7_ := Aside0.mk ((by rw [hg]; exact Nat.ne_of_lt (blk_lt (g := gb289) (o := .cells #[.slice Ao20 t283.length co20, .bool t286, .bool t287, .int .i64 t288] 26 (0, 0)) (by (with_reducible repeat (first | apply blk_drewN | apply blk_drew | apply blk_alloc)); exact BK289.out)) : gb289 ≠ gb297))
           have n8_ := Aside0.mk ((by rw [hg]; exact Nat.ne_of_gt (blk_lt (g := gb289) (o := .cells #[.slice Ao20 t283.length co20, .bool t286, .bool t287, .int .i64 t288] 26 (0, 0)) (by (with_reducible repeat (first | apply blk_drewN | apply blk_drew | apply blk_alloc)); exact BK289.out)) : gb297 ≠ gb289))
           clear HO285
           clear HO292
           clear BK289
           clear HB
           have HO285 := n0_
           have HO292 := n1_
           have BK289 := n2_
           have HB := n3_
           have BK297 := n4_
           have GW297 := n5_
           have GE297 := n6_
           have NB289_297 := n7_
           have NB297_289 := n8_
           clear n0_ n1_ n2_ n3_ n4_ n5_ n6_ n7_ n8_
           clear hb hbox hg
           refine hK.out _ _ ⟨(blk_cell BK289.out 0).trans rfl, (blk_cell BK289.out 1).trans rfl, (blk_cell BK289.out 2).trans rfl, (blk_cell BK289.out 3).trans rfl⟩ (fun hHeld => ?_)
           clear hK K
           refine norm_ (a' := ?_) ?_ ?_
           rotate_left
           ·
            show Act.put _ (some 9) _ = _
            simp only [Act.put, List.setIfInBounds_toArray, List.set_cons_zero, List.set_cons_succ, i64_w, i32_w]
            rfl
           exact norm_ (by simp only [putAll, Act.put, List.setIfInBounds_toArray, List.set_cons_zero, List.set_cons_succ]) (hCont (v291, gb297) _ ⟨hHeld, (by (with_reducible repeat (first | apply Kd.V_alloc | apply Kd.V_drewN | apply Kd.V_drew)); exact HO285.out), (by (with_reducible repeat (first | apply Kd.V_alloc | apply Kd.V_drewN | apply Kd.V_drew)); exact HO292.out), (by (with_reducible repeat (first | apply blk_drewN | apply blk_drew | apply blk_alloc)); exact BK289.out), (by (with_reducible repeat (first | apply blk_drewN | apply blk_drew | apply blk_alloc)); exact BK297.out), GW297.out, GE297.out, NB289_297.out, NB297_289.out, (by repeat (first | (with_reducible first | exact HB.out | apply below_alloc | apply pw_below_drewN | apply below_drew1 | refine below_set ?_ GE289.out | refine below_set ?_ GE297.out) | exact HB.out))⟩)
          ·
           skip
           refine box_step ?hg (N := 9) ?hd (cs := #[.slice none 0 0, .bool false, .bool false, .int .i64 0]) (t := 26) ?hr ?_; (case hd => rfl); (case hg => rfl); (case hr => first | (go_simp; done) | (go_simp; rfl))
           intro gb297 hg w24 hbox hb
           have n0_ := Aside0.mk (Kd.V_below (Kd.V_elderB (by (with_reducible repeat (first | apply Kd.V_alloc | apply Kd.V_drewN | apply Kd.V_drew)); exact HO285.out) gb297 (Nat.le_of_eq hg.symm)) hb)
           have n1_ := Aside0.mk (blk_below (g := gb289) (o := .cells #[.slice Ao20 t283.length co20, .bool t286, .bool t287, .int .i64 t288] 26 (0, 0)) (by (with_reducible repeat (first | apply blk_drewN | apply blk_drew | apply blk_alloc)); exact BK289.out) hb)
           have n2_ := Aside0.mk (below_step (by repeat (first | exact HB.out | apply below_alloc | apply pw_below_drewN | apply below_drew1 | refine below_set ?_ GE289.out)) hb)
           have n3_ := Aside0.mk (hbox)
           have n4_ := Aside0.mk ((by rw [hg]; exact (below_size (by repeat (first | exact HB.out | apply below_alloc | apply pw_below_drewN | apply below_drew1 | refine below_set ?_ GE289.out))) : w.heap.size ≤ gb297))
           have n5_ := Aside0.mk ((by rw [hg]; exact (below_size (by repeat (first | exact HB.out | apply below_alloc | apply pw_below_drewN | apply below_drew1 | refine below_set ?_ GE289.out))) : w.heap.size ≤ gb297))
           have n6_ := Aside0.mk ((by rw [hg]; exact Nat.ne_of_lt (blk_lt (g := gb289) (o := .cells #[.slice Ao20 t283.length co20, .bool t286, .bool t287, .int .i64 t288] 26 (0, 0)) (by (with_reducible repeat (first | apply blk_drewN | apply blk_drew | apply blk_alloc)); exact BK289.out)) : gb289 ≠ gb297))
           have n7_ := Aside0.mk ((by rw [hg]; exact Nat.ne_of_gt (blk_lt (g := gb289) (o := .cells #[.slice Ao20 t283.length co20, .bool t286, .bool t287, .int .i64 t288] 26 (0, 0)) (by (with_reducible repeat (first | apply blk_drewN | apply blk_drew | apply blk_alloc)); exact BK289.out)) : gb297 ≠ gb289))
           clear HO285
           clear BK289
           clear HB
           have HO285 := n0_
           have BK289 := n1_
           have HB := n2_
           have BK297 := n3_
           have GW297 := n4_
           have GE297 := n5_
           have NB289_297 := n6_
           have NB297_289 := n7_
           clear n0_ n1_ n2_ n3_ n4_ n5_ n6_ n7_
           clear hb hbox hg
           refine hK.out _ _ ⟨(blk_cell BK289.out 0).trans rfl, (blk_cell BK289.out 1).trans rfl, (blk_cell BK289.out 2).trans rfl, (blk_cell BK289.out 3).trans rfl⟩ (fun hHeld => ?_)
           clear hK K
           refine norm_ (a' := ?_) ?_ ?_
           rotate_left
           ·
            show Act.put _ (some 9) _ = _
            simp only [Act.put, List.setIfInBounds_toArray, List.set_cons_zero, List.set_cons_succ, i64_w, i32_w]
            rfl
           refine one_ (i := 8) (N := some 33) #[true, true, true, true, true, true, true, true, true, false, false, false, true, false, false] rfl rfl (one_of HT_.out (by kernel_rfl)) (by decide) (fun K hK => ?_)
           refine goes_ Try.func9 (by kernel_rfl) rfl #[.agg #[.slice Ao20 t283.length co20, .bool t286, .bool t287, .int .i64 t288], .int .i64 (Int.tmod (wrap64 (a2)) (t283.length : Int)), .agg #[.int .i64 0, .string (⟨#[]⟩ : ByteArray), .string (⟨#[]⟩ : ByteArray), .int .i64 0]] (by rfl) rfl rfl (by (try simp only [List.map_toArray, List.map_cons, List.map_nil]); first | done | rfl | (simp only [List.length_drop, List.length_take]; rfl)) ?_
           with_reducible refine (clinkerref05_Erase.calls _ _ t283 t286 t287 t288 (Int.tmod (wrap64 (a2)) (t283.length : Int)) 0 (⟨#[]⟩ : ByteArray) (⟨#[]⟩ : ByteArray) 0 t290 t293 t294 t295 t296 _ ?side1 ?side2 A8.out).mono ?_
           (case side1 => repeat (first | exact (Kd.V_reads' HO285.out).2.2 | (with_reducible refine Kd.C_alloc ?_ _) | (with_reducible refine Kd.C_drewN ?_ _) | (with_reducible refine Kd.C_drew ?_)))
           (case side2 => exact (Kd.V_reads' HO285.out).2.1)
           rintro e w25 ⟨v291, rfl, ho0, hb⟩
           refine ⟨_, rfl, ?_⟩
           have n0_ := Aside0.mk (Kd.V_below (by (with_reducible repeat (first | apply Kd.V_alloc | apply Kd.V_drewN | apply Kd.V_drew)); exact HO285.out) hb)
           have n1_ := Aside0.mk (Kd.V_lower (Kd.V_mono (ok' := fun k_ => k_ ≠ gb289 ∧ k_ ≠ gb297) ho0 (fun k_ hk_ => ⟨(Kd.freshB (g := gb289) (o := .cells #[.slice Ao20 t283.length co20, .bool t286, .bool t287, .int .i64 t288] 26 (0, 0)) (by (with_reducible repeat (first | apply blk_drewN | apply blk_drew | apply blk_alloc)); exact BK289.out) k_ hk_), (Kd.freshB (g := gb297) (o := .cells #[.slice none 0 0, .bool false, .bool false, .int .i64 0] 26 (0, 0)) (by (with_reducible repeat (first | apply blk_drewN | apply blk_drew | apply blk_alloc)); exact BK297.out) k_ hk_)⟩)) (below_size (by repeat (first | (with_reducible first | exact HB.out | apply below_alloc | apply pw_below_drewN | apply below_drew1 | refine below_set ?_ GE289.out | refine below_set ?_ GE297.out) | exact HB.out))))
           have n2_ := Aside0.mk (blk_below (g := gb289) (o := .cells #[.slice Ao20 t283.length co20, .bool t286, .bool t287, .int .i64 t288] 26 (0, 0)) (by (with_reducible repeat (first | apply blk_drewN | apply blk_drew | apply blk_alloc)); exact BK289.out) hb)
           have n3_ := Aside0.mk (blk_below (g := gb297) (o := .cells #[.slice none 0 0, .bool false, .bool false, .int .i64 0] 26 (0, 0)) (by (with_reducible repeat (first | apply blk_drewN | apply blk_drew | apply blk_alloc)); exact BK297.out) hb)
           have n4_ := Aside0.mk (below_step (by repeat (first | (with_reducible first | exact HB.out | apply below_alloc | apply pw_below_drewN | apply below_drew1 | refine below_set ?_ GE289.out | refine below_set ?_ GE297.out) | exact HB.out)) hb)
           clear HO285
           clear BK289
           clear BK297
           clear HB
           have HO285 := n0_
           have HO292 := n1_
           have BK289 := n2_
           have BK297 := n3_
           have HB := n4_
           clear n0_ n1_ n2_ n3_ n4_
           (try clear hb)
           (try clear hb2)
           (try clear hk)
           (try clear hi)
           (try clear ho0)
           refine hK.out _ _ ⟨(blk_cell BK289.out 0).trans rfl, (blk_cell BK289.out 1).trans rfl, (blk_cell BK289.out 2).trans rfl, (blk_cell BK289.out 3).trans rfl⟩ (fun hHeld => ?_)
           clear hK K
           refine norm_ (a' := ?_) ?_ ?_
           rotate_left
           ·
            show Act.put _ (some 33) _ = _
            simp only [Act.put, List.setIfInBounds_toArray, List.set_cons_zero, List.set_cons_succ, i64_w, i32_w]
            rfl
           refine pure_ (i := 9) (N := some 24) (v := ?_) (a' := ?_) #[true, true, true, true, true, true, true, true, true, true, false, false, true, false, false] rfl rfl (any_of HT_.out (by kernel_rfl)) (fun _ _ _ h => h) (Or.inl ⟨by rfl, ?_⟩) ?_ ?_
           rotate_left
           ·
            intro w'
            go_simp
            with_reducible rfl
           rotate_left
           ·
            simp only [Act.put, List.setIfInBounds_toArray, List.set_cons_zero, List.set_cons_succ, i64_w, i32_w]
            rfl
           refine pure_ (i := 10) (N := some 34) (v := ?_) (a' := ?_) #[true, true, true, true, true, true, true, true, true, true, true, false, true, false, false] rfl rfl (any_of HT_.out (by kernel_rfl)) (fun _ _ _ h => h) (Or.inl ⟨by rfl, ?_⟩) ?_ ?_
           rotate_left
           ·
            intro w'
            go_simp
            with_reducible rfl
           rotate_left
           ·
            simp only [Act.put, List.setIfInBounds_toArray, List.set_cons_zero, List.set_cons_succ, i64_w, i32_w]
            rfl
           refine pure_ (i := 11) (N := some 35) (v := ?_) (a' := ?_) #[true, true, true, true, true, true, true, true, true, true, true, true, true, false, false] rfl rfl (any_of HT_.out (by kernel_rfl)) (fun _ _ _ h => h) (Or.inl ⟨by rfl, ?_⟩) ?_ ?_
           rotate_left
           ·
            intro w'
            go_simp
            with_reducible rfl
           rotate_left
           ·
            simp only [Act.put, List.setIfInBounds_toArray, List.set_cons_zero, List.set_cons_succ, i64_w, i32_w]
            rfl
           exact norm_ (by simp only [putAll, Act.put, List.setIfInBounds_toArray, List.set_cons_zero, List.set_cons_succ]) (hCont (v291, gb297) _ ⟨hHeld, (by (with_reducible repeat (first | apply Kd.V_alloc | apply Kd.V_drewN | apply Kd.V_drew)); exact HO285.out), (by (with_reducible repeat (first | apply Kd.V_alloc | apply Kd.V_drewN | apply Kd.V_drew)); exact HO292.out), (by (with_reducible repeat (first | apply blk_drewN | apply blk_drew | apply blk_alloc)); exact BK289.out), (by (with_reducible repeat (first | apply blk_drewN | apply blk_drew | apply blk_alloc)); exact BK297.out), GW297.out, GE297.out, NB289_297.out, NB297_289.out, (by repeat (first | (with_reducible first | exact HB.out | apply below_alloc | apply pw_below_drewN | apply below_drew1 | refine below_set ?_ GE289.out | refine below_set ?_ GE297.out) | exact HB.out))⟩)
         rintro ⟨v291, gb297⟩ w26 ⟨hS_, h0_, h1_, h2_, h3_, h4_, h5_, h6_, h7_, h8_⟩
         have n0_ : Aside0 (Kd.V k45 45 w26 w.heap.size (fun k_ => k_ ≠ gb289 ∧ k_ ≠ gb297) (.slice Ao20 t283.length co20) t283) := ⟨h0_⟩
         have n1_ : Aside0 (Kd.V k45 45 w26 w.heap.size (fun k_ => k_ ≠ gb289 ∧ k_ ≠ gb297) v291 t290) := ⟨h1_⟩
         have n2_ : Aside0 (w26.heap[gb289]? = some (.cells #[.slice Ao20 t283.length co20, .bool t286, .bool t287, .int .i64 t288] 26 (0, 0))) := ⟨h2_⟩
         have n3_ : Aside0 (w26.heap[gb297]? = some (.cells #[.slice none 0 0, .bool false, .bool false, .int .i64 0] 26 (0, 0))) := ⟨h3_⟩
         have n4_ : Aside0 (w.heap.size ≤ gb297) := ⟨h4_⟩
         have n5_ : Aside0 (w.heap.size ≤ gb297) := ⟨h5_⟩
         have n6_ : Aside0 (gb289 ≠ gb297) := ⟨h6_⟩
         have n7_ : Aside0 (gb297 ≠ gb289) := ⟨h7_⟩
         have n8_ : Aside0 (Below w.heap.size w w26) := ⟨h8_⟩
         clear HO285
         clear BK289
         clear HB
         clear h0_ h1_ h2_ h3_ h4_ h5_ h6_ h7_ h8_
         have HO285 := n0_
         have HO292 := n1_
         have BK289 := n2_
         have BK297 := n3_
         have GW297 := n4_
         have GE297 := n5_
         have NB289_297 := n6_
         have NB297_289 := n7_
         have HB := n8_
         clear n0_ n1_ n2_ n3_ n4_ n5_ n6_ n7_ n8_
         have hHeld : w26.cell? ⟨gb289, 0, none⟩ = some (.slice Ao20 t283.length co20) ∧ w26.cell? ⟨gb289, 1, none⟩ = some (.bool t286) ∧ w26.cell? ⟨gb289, 2, none⟩ = some (.bool t287) ∧ w26.cell? ⟨gb289, 3, none⟩ = some (.int .i64 t288) := hS_
         obtain ⟨Ao27, co27, eo27⟩ := Kd.V_slice HO292.out
         (first | subst eo27 | (injection eo27 with f1_ f2_ f3_; have f4_ := f1_.symm; have f5_ := f3_.symm; clear f1_ f2_ f3_; subst f4_; subst f5_))
         refine norm_ (a' := ?_) ?_ ?_
         rotate_left
         ·
          simp only [putAll, Act.put, List.setIfInBounds_toArray, List.set_cons_zero, List.set_cons_succ]
          rfl
         refine one_ (i := 13) (N := none) #[true, true, true, true, true, true, true, true, true, true, true, true, true, true, false] rfl rfl (one_of HT_.out (by kernel_rfl)) (by decide) (fun K hK => ?_)
         have hs28 : w26.cell? ⟨gb297, 0, none⟩ = some (.slice none 0 0) := (blk_cell BK297.out 0).trans rfl
         have hfs28 := blk_frozen BK297.out 0
         have hns28_0 := NB289_297.out
         have hms28_0 := NB297_289.out
         have hs29 : w26.cell? ⟨gb297, 1, none⟩ = some (.bool false) := (blk_cell BK297.out 1).trans rfl
         have hfs29 := blk_frozen BK297.out 1
         have hns29_0 := NB289_297.out
         have hms29_0 := NB297_289.out
         have hs30 : w26.cell? ⟨gb297, 2, none⟩ = some (.bool false) := (blk_cell BK297.out 2).trans rfl
         have hfs30 := blk_frozen BK297.out 2
         have hns30_0 := NB289_297.out
         have hms30_0 := NB297_289.out
         have hs31 : w26.cell? ⟨gb297, 3, none⟩ = some (.int .i64 0) := (blk_cell BK297.out 3).trans rfl
         have hfs31 := blk_frozen BK297.out 3
         have hns31_0 := NB289_297.out
         have hms31_0 := NB297_289.out
         refine skip_ (w1 := ?_) (by rfl) rfl ?_ ?_
         rotate_left
         ·
          go_simp
          rfl
         refine hK.out _ _ ⟨((cell_far (p := ⟨gb297, _, none⟩) NB289_297.out _).trans (((cell_far (p := ⟨gb297, _, none⟩) NB289_297.out _).trans (((cell_far (p := ⟨gb297, _, none⟩) NB289_297.out _).trans (((cell_far (p := ⟨gb297, _, none⟩) NB289_297.out _).trans (hHeld.1)))))))), ((cell_far (p := ⟨gb297, _, none⟩) NB289_297.out _).trans (((cell_far (p := ⟨gb297, _, none⟩) NB289_297.out _).trans (((cell_far (p := ⟨gb297, _, none⟩) NB289_297.out _).trans (((cell_far (p := ⟨gb297, _, none⟩) NB289_297.out _).trans (hHeld.2.1)))))))), ((cell_far (p := ⟨gb297, _, none⟩) NB289_297.out _).trans (((cell_far (p := ⟨gb297, _, none⟩) NB289_297.out _).trans (((cell_far (p := ⟨gb297, _, none⟩) NB289_297.out _).trans (((cell_far (p := ⟨gb297, _, none⟩) NB289_297.out _).trans (hHeld.2.2.1)))))))), ((cell_far (p := ⟨gb297, _, none⟩) NB289_297.out _).trans (((cell_far (p := ⟨gb297, _, none⟩) NB289_297.out _).trans (((cell_far (p := ⟨gb297, _, none⟩) NB289_297.out _).trans (((cell_far (p := ⟨gb297, _, none⟩) NB289_297.out _).trans (hHeld.2.2.2))))))))⟩ (fun hHeld => ?_)
         clear hK K
         refine pure_ (i := 14) (N := some 10) (v := ?_) (a' := ?_) #[true, true, true, true, true, true, true, true, true, true, true, true, true, true, true] rfl rfl (any_of HT_.out (by kernel_rfl)) (fun _ _ _ h => h) (Or.inl ⟨by rfl, ?_⟩) ?_ ?_
         rotate_left
         ·
          intro w'
          go_simp
          with_reducible rfl
         rotate_left
         ·
          simp only [Act.put, List.setIfInBounds_toArray, List.set_cons_zero, List.set_cons_succ, i64_w, i32_w]
          rfl
         refine done_ (done_of HT_.out (by kernel_rfl)) ?_
         have hnb32 := NB289_297.out
         have hnc32 := NB297_289.out
         have hcz33_0 : w26.cell? ⟨gb289, 0, none⟩ = some (.slice Ao20 t283.length co20) := (blk_cell BK289.out 0).trans rfl
         have hcz33_1 : w26.cell? ⟨gb289, 1, none⟩ = some (.bool t286) := (blk_cell BK289.out 1).trans rfl
         have hcz33_2 : w26.cell? ⟨gb289, 2, none⟩ = some (.bool t287) := (blk_cell BK289.out 2).trans rfl
         have hcz33_3 : w26.cell? ⟨gb289, 3, none⟩ = some (.int .i64 t288) := (blk_cell BK289.out 3).trans rfl
         have hfz33_0 := blk_frozen BK289.out 0
         have hfz33_1 := blk_frozen BK289.out 1
         have hfz33_2 := blk_frozen BK289.out 2
         have hfz33_3 := blk_frozen BK289.out 3
         try go_wp2_with (first | ((with_reducible refine gate_callee (f := 14) rfl ?_); refine goesL_ (some 38) rfl rfl Try.func14 (by kernel_rfl) rfl #[.agg #[.slice Ao20 t283.length co20, .bool t286, .bool t287, .int .i64 t288]] rfl (by (try simp only [List.map_toArray, List.map_cons, List.map_nil]); first | done | rfl | (simp only [List.length_drop, List.length_take]; rfl)) ?_; (with_reducible refine (states_Wear.calls k _ _ t283 t286 t287 t288 t298 t299 _ ?side1 ?side2 A9.out).mono ?_); (case side1 => refine (Kd.V_reads' (e := 45) (base := w.heap.size) (ok := fun k_ => (k_ ≠ gb289 ∧ k_ ≠ gb297)) (n := t283.length) (c := co20) ?_).2.2; exact (by (with_reducible repeat (first | apply Kd.V_alloc | apply Kd.V_drewN | apply Kd.V_drew)); exact (Kd.V_mono (Kd.V_far (p := ⟨gb297, 3, none⟩) (Kd.V_far (p := ⟨gb297, 2, none⟩) (Kd.V_far (p := ⟨gb297, 1, none⟩) (Kd.V_far (p := ⟨gb297, 0, none⟩) (Kd.V_mono HO285.out (fun k_ hk => (⟨hk, hk.2⟩ : _ ∧ k_ ≠ gb297))) (fun _ hk => hk.2) _) (fun _ hk => hk.2) (.bool t293)) (fun _ hk => hk.2) (.bool t294)) (fun _ hk => hk.2) _) (fun _ h_ => h_.1)))); (case side2 => exact (Kd.V_reads' HO285.out).2.1); rintro e w34 ⟨rfl, hb⟩; refine ⟨_, rfl, ?_⟩; have n0_ := Aside0.mk (Kd.V_below (by (with_reducible repeat (first | apply Kd.V_alloc | apply Kd.V_drewN | apply Kd.V_drew)); exact (Kd.V_mono (Kd.V_far (p := ⟨gb297, 3, none⟩) (Kd.V_far (p := ⟨gb297, 2, none⟩) (Kd.V_far (p := ⟨gb297, 1, none⟩) (Kd.V_far (p := ⟨gb297, 0, none⟩) (Kd.V_mono HO285.out (fun k_ hk => (⟨hk, hk.2⟩ : _ ∧ k_ ≠ gb297))) (fun _ hk => hk.2) _) (fun _ hk => hk.2) (.bool t293)) (fun _ hk => hk.2) (.bool t294)) (fun _ hk => hk.2) _) (fun _ h_ => h_.1))) hb); have n1_ := Aside0.mk (Kd.V_below (by (with_reducible repeat (first | apply Kd.V_alloc | apply Kd.V_drewN | apply Kd.V_drew)); exact (Kd.V_mono (Kd.V_far (p := ⟨gb297, 3, none⟩) (Kd.V_far (p := ⟨gb297, 2, none⟩) (Kd.V_far (p := ⟨gb297, 1, none⟩) (Kd.V_far (p := ⟨gb297, 0, none⟩) (Kd.V_mono HO292.out (fun k_ hk => (⟨hk, hk.2⟩ : _ ∧ k_ ≠ gb297))) (fun _ hk => hk.2) _) (fun _ hk => hk.2) (.bool t293)) (fun _ hk => hk.2) (.bool t294)) (fun _ hk => hk.2) _) (fun _ h_ => h_.1))) hb); have n2_ := Aside0.mk (blk_below (g := gb289) (o := .cells #[.slice Ao20 t283.length co20, .bool t286, .bool t287, .int .i64 t288] 26 (0, 0)) (by (with_reducible repeat (first | apply blk_drewN | apply blk_drew | apply blk_alloc)); refine blk_far ?_ NB289_297.out _; (with_reducible repeat (first | apply blk_drewN | apply blk_drew | apply blk_alloc)); refine blk_far ?_ NB289_297.out _; (with_reducible repeat (first | apply blk_drewN | apply blk_drew | apply blk_alloc)); refine blk_far ?_ NB289_297.out _; (with_reducible repeat (first | apply blk_drewN | apply blk_drew | apply blk_alloc)); refine blk_far ?_ NB289_297.out _; (with_reducible repeat (first | apply blk_drewN | apply blk_drew | apply blk_alloc)); exact BK289.out) hb); have n3_ := Aside0.mk (blk_below (g := gb297) (o := .cells #[.slice Ao27 t290.length co27, .bool t293, .bool t294, .int .i64 t295] 26 (0, 0)) (by (with_reducible repeat (first | apply blk_drewN | apply blk_drew | apply blk_alloc)); refine blk_put (cs := #[.slice Ao27 t290.length co27, .bool t293, .bool t294, .int .i64 0]) ?_ 3 _ rfl; (with_reducible repeat (first | apply blk_drewN | apply blk_drew | apply blk_alloc)); refine blk_put (cs := #[.slice Ao27 t290.length co27, .bool t293, .bool false, .int .i64 0]) ?_ 2 _ rfl; (with_reducible repeat (first | apply blk_drewN | apply blk_drew | apply blk_alloc)); refine blk_put (cs := #[.slice Ao27 t290.length co27, .bool false, .bool false, .int .i64 0]) ?_ 1 _ rfl; (with_reducible repeat (first | apply blk_drewN | apply blk_drew | apply blk_alloc)); refine blk_put (cs := #[.slice none 0 0, .bool false, .bool false, .int .i64 0]) ?_ 0 _ rfl; (with_reducible repeat (first | apply blk_drewN | apply blk_drew | apply blk_alloc)); exact BK297.out) hb); have n4_ := Aside0.mk (below_step (by repeat (first | (with_reducible first | exact HB.out | apply below_alloc | apply pw_below_drewN | apply below_drew1 | refine below_set ?_ GE289.out | refine below_set ?_ GE297.out) | exact HB.out)) hb); clear HO285; clear HO292; clear BK289; clear BK297; clear HB; have HO285 := n0_; have HO292 := n1_; have BK289 := n2_; have BK297 := n3_; have HB := n4_; clear n0_ n1_ n2_ n3_ n4_; (try clear hb); (try clear hb2); (try clear hk); (try clear hi); have hcz35_0 : w34.cell? ⟨gb297, 0, none⟩ = some (.slice Ao27 t290.length co27) := (blk_cell BK297.out 0).trans rfl; have hcz35_1 : w34.cell? ⟨gb297, 1, none⟩ = some (.bool t293) := (blk_cell BK297.out 1).trans rfl; have hcz35_2 : w34.cell? ⟨gb297, 2, none⟩ = some (.bool t294) := (blk_cell BK297.out 2).trans rfl; have hcz35_3 : w34.cell? ⟨gb297, 3, none⟩ = some (.int .i64 t295) := (blk_cell BK297.out 3).trans rfl; have hfz35_0 := blk_frozen BK297.out 0; have hfz35_1 := blk_frozen BK297.out 1; have hfz35_2 := blk_frozen BK297.out 2; have hfz35_3 := blk_frozen BK297.out 3) | ((with_reducible refine gate_callee (f := 14) rfl ?_); refine goesL_ (some 43) rfl rfl Try.func14 (by kernel_rfl) rfl #[.agg #[.slice Ao27 t290.length co27, .bool t293, .bool t294, .int .i64 t295]] rfl (by (try simp only [List.map_toArray, List.map_cons, List.map_nil]); first | done | rfl | (simp only [List.length_drop, List.length_take]; rfl)) ?_; (with_reducible refine (states_Wear.calls k _ _ t290 t293 t294 t295 t300 t301 _ ?side1 ?side2 A10.out).mono ?_); (case side1 => repeat (first | exact (Kd.V_reads' HO292.out).2.2 | (with_reducible refine Kd.C_alloc ?_ _) | (with_reducible refine Kd.C_drewN ?_ _) | (with_reducible refine Kd.C_drew ?_))); (case side2 => exact (Kd.V_reads' HO292.out).2.1); rintro e w36 ⟨rfl, hb⟩; refine ⟨_, rfl, ?_⟩; have n0_ := Aside0.mk (Kd.V_below (by (with_reducible repeat (first | apply Kd.V_alloc | apply Kd.V_drewN | apply Kd.V_drew)); exact HO285.out) hb); have n1_ := Aside0.mk (Kd.V_below (by (with_reducible repeat (first | apply Kd.V_alloc | apply Kd.V_drewN | apply Kd.V_drew)); exact HO292.out) hb); have n2_ := Aside0.mk (blk_below (g := gb289) (o := .cells #[.slice Ao20 t283.length co20, .bool t286, .bool t287, .int .i64 t288] 26 (0, 0)) (by (with_reducible repeat (first | apply blk_drewN | apply blk_drew | apply blk_alloc)); exact BK289.out) hb); have n3_ := Aside0.mk (blk_below (g := gb297) (o := .cells #[.slice Ao27 t290.length co27, .bool t293, .bool t294, .int .i64 t295] 26 (0, 0)) (by (with_reducible repeat (first | apply blk_drewN | apply blk_drew | apply blk_alloc)); exact BK297.out) hb); have n4_ := Aside0.mk (below_step (by repeat (first | (with_reducible first | exact HB.out | apply below_alloc | apply pw_below_drewN | apply below_drew1 | refine below_set ?_ GE289.out | refine below_set ?_ GE297.out) | exact HB.out)) hb); clear HO285; clear HO292; clear BK289; clear BK297; clear HB; have HO285 := n0_; have HO292 := n1_; have BK289 := n2_; have BK297 := n3_; have HB := n4_; clear n0_ n1_ n2_ n3_ n4_; (try clear hb); (try clear hb2); (try clear hk); (try clear hi)))
         go_ret
         exact ⟨by first | rfl | (simp [errW_none, errW_some] <;> rfl) | (simp [*, errW_none, errW_some] <;> rfl), by repeat (first | (with_reducible first | exact HB.out | apply below_alloc | apply pw_below_drewN | apply below_drew1 | refine below_set ?_ GE289.out | refine below_set ?_ GE297.out) | exact HB.out)⟩
        ·
         rw [if_neg c16] at H
         have c16b0 : decide (t301 ≤ (wrap64 (t299 + 1))) = false := decide_eq_false c16
         clear c16
         exact absurd (H.trans (congrArg some hrt.out)) (by simp)
       ·
        rw [if_neg c15] at H
        have c15b0 : decide (t299 ≤ t301) = false := decide_eq_false c15
        clear c15
        exact absurd (H.trans (congrArg some hrt.out)) (by simp)
      ·
       rw [if_neg c14] at H
       have c14b0 : decide (t300 ≤ (wrap64 (t298 + 1))) = false := decide_eq_false c14
       clear c14
       exact absurd (H.trans (congrArg some hrt.out)) (by simp)
     ·
      rw [if_neg c13] at H
      have c13b0 : decide (t298 ≤ t300) = false := decide_eq_false c13
      clear c13
      exact absurd (H.trans (congrArg some hrt.out)) (by simp)
    ·
     rw [if_neg c12] at H
     have c12b0 : decide (t298 ≤ t299) = false := decide_eq_false c12
     clear c12
     exact absurd (H.trans (congrArg some hrt.out)) (by simp)
   ·
    rw [if_neg c11] at H
    have c11b0 : (t296 == 0) = false := beq_eq_false_iff_ne.mpr c11
    have c11b1 : (t296 != 0) = true := bne_iff_ne.mpr c11
    by_cases c137 : t298 = t300
    ·
     rw [if_pos c137] at H
     have c137b0 : (t298 == t300) = true := beq_iff_eq.mpr c137
     have c137b1 : (t298 != t300) = false := bne_eq_false_iff_eq.mpr c137
     clear c137
     obtain rfl := Option.some.inj H
     go_enter Try.func5, Try.ntmps5
     try go_wp2_with (first | ((with_reducible refine gate_callee (f := 6) rfl ?_); refine goesL_ (some 15) rfl rfl Try.func6 (by kernel_rfl) rfl #[] rfl (by (try simp only [List.map_toArray, List.map_cons, List.map_nil]); first | done | rfl | (simp only [List.length_drop, List.length_take]; rfl)) ?_; (with_reducible refine (clinkerlaw10_awake.calls k  true _ A4.out).mono ?_); rintro e w138 ⟨rfl, hb⟩; refine ⟨_, rfl, ?_⟩; have n0_ := Aside0.mk (below_step (by repeat (first | exact HB.out | apply below_alloc | apply pw_below_drewN | apply below_drew1)) hb); clear HB; have HB := n0_; clear n0_; (try clear hb); (try clear hb2); (try clear hk); (try clear hi)) | ((with_reducible refine gate_callee (f := 7) rfl ?_); refine goesL_ (some 23) rfl rfl Try.func7 (by kernel_rfl) rfl #[.slice A0 l0.length c0, .int .i64 (wrap64 (1 + (Int.tmod (wrap64 (a1)) 6))), .int .i64 4] rfl (by (try simp only [List.map_toArray, List.map_cons, List.map_nil]); first | done | rfl | (simp only [List.length_drop, List.length_take]; rfl)) ?_; (with_reducible refine (clinkerlaw06_Made.calls k _ _ l0 (wrap64 (1 + (Int.tmod (wrap64 (a1)) 6))) 4 t283 t286 t287 t288 _ ?side1 ?side2 A6.out).mono ?_); (case side1 => repeat (first | exact (Kd.C_below HR0.out HB.out) | (with_reducible refine Kd.C_alloc ?_ _) | (with_reducible refine Kd.C_drewN ?_ _) | (with_reducible refine Kd.C_drew ?_))); (case side2 => exact HC0.out); rintro e w139 ⟨v284, rfl, ho0, hb⟩; refine ⟨_, rfl, ?_⟩; have n0_ := Aside0.mk (Kd.V_lower (Kd.V_mono (ok' := fun k_ => True) ho0 (fun k_ hk_ => trivial)) (below_size (by repeat (first | exact HB.out | apply below_alloc | apply pw_below_drewN | apply below_drew1)))); have n1_ := Aside0.mk (below_step (by repeat (first | exact HB.out | apply below_alloc | apply pw_below_drewN | apply below_drew1)) hb); clear HB; have HO285 := n0_; have HB := n1_; clear n0_ n1_; (try clear hb); (try clear hb2); (try clear hk); (try clear hi); (try clear ho0)) | ((with_reducible refine gate_dst (N := 8) rfl ?_); refine box_event ?hg (N := 8) ?hd (cs := #[.slice none 0 0, .bool false, .bool false, .int .i64 0]) (t := 26) ?hr ?_; (case hd => rfl); (case hg => rfl); (case hr => first | (go_simp; done) | (go_simp; rfl)); intro gb289 hg w140 hbox hb; have n0_ := Aside0.mk (Kd.V_below (Kd.V_elderB (by (with_reducible repeat (first | apply Kd.V_alloc | apply Kd.V_drewN | apply Kd.V_drew)); exact HO285.out) gb289 (Nat.le_of_eq hg.symm)) hb); have n1_ := Aside0.mk (below_step (by repeat (first | exact HB.out | apply below_alloc | apply pw_below_drewN | apply below_drew1)) hb); have n2_ := Aside0.mk (hbox); have n3_ := Aside0.mk ((by rw [hg]; exact (below_size (by repeat (first | exact HB.out | apply below_alloc | apply pw_below_drewN | apply below_drew1))) : w.heap.size ≤ gb289)); have n4_ := Aside0.mk ((by rw [hg]; exact (below_size (by repeat (first | exact HB.out | apply below_alloc | apply pw_below_drewN | apply below_drew1))) : w.heap.size ≤ gb289)); clear HO285; clear HB; have HO285 := n0_; have HB := n1_; have BK289 := n2_; have GW289 := n3_; have GE289 := n4_; clear n0_ n1_ n2_ n3_ n4_; clear hb hbox hg; obtain ⟨Ao141, co141, eo141⟩ := Kd.V_slice HO285.out; subst eo141; have hcz142_0 : w140.cell? ⟨gb289, 0, none⟩ = some (.slice none 0 0) := (blk_cell BK289.out 0).trans rfl; have hcz142_1 : w140.cell? ⟨gb289, 1, none⟩ = some (.bool false) := (blk_cell BK289.out 1).trans rfl; have hcz142_2 : w140.cell? ⟨gb289, 2, none⟩ = some (.bool false) := (blk_cell BK289.out 2).trans rfl; have hcz142_3 : w140.cell? ⟨gb289, 3, none⟩ = some (.int .i64 0) := (blk_cell BK289.out 3).trans rfl; have hfz142_0 := blk_frozen BK289.out 0; have hfz142_1 := blk_frozen BK289.out 1; have hfz142_2 := blk_frozen BK289.out 2; have hfz142_3 := blk_frozen BK289.out 3))
     have n0_ : Aside0 (Kd.V k45 45 ((((w140.setCell ⟨gb289, 0, none⟩ (.slice Ao141 t283.length co141)).setCell ⟨gb289, 1, none⟩ (.bool t286)).setCell ⟨gb289, 2, none⟩ (.bool t287)).setCell ⟨gb289, 3, none⟩ (.int .i64 t288)) w.heap.size (fun k_ => k_ ≠ gb289) (.slice Ao141 t283.length co141) t283) := ⟨by (with_reducible repeat (first | apply Kd.V_alloc | apply Kd.V_drewN | apply Kd.V_drew)); exact Kd.V_mono (Kd.V_far (p := ⟨gb289, 3, none⟩) (Kd.V_far (p := ⟨gb289, 2, none⟩) (Kd.V_far (p := ⟨gb289, 1, none⟩) (Kd.V_far (p := ⟨gb289, 0, none⟩) (Kd.V_mono HO285.out (fun k_ hk => (⟨hk, hk.2⟩ : _ ∧ k_ ≠ gb289))) (fun _ hk => hk.2) _) (fun _ hk => hk.2) (.bool t286)) (fun _ hk => hk.2) (.bool t287)) (fun _ hk => hk.2) _) (fun _ hk => hk.1.2)⟩
     have n1_ : Aside0 (((((w140.setCell ⟨gb289, 0, none⟩ (.slice Ao141 t283.length co141)).setCell ⟨gb289, 1, none⟩ (.bool t286)).setCell ⟨gb289, 2, none⟩ (.bool t287)).setCell ⟨gb289, 3, none⟩ (.int .i64 t288)).heap[gb289]? = some (.cells #[.slice Ao141 t283.length co141, .bool t286, .bool t287, .int .i64 t288] 26 (0, 0))) := ⟨by (with_reducible repeat (first | apply blk_drewN | apply blk_drew | apply blk_alloc)); refine blk_put (cs := #[.slice Ao141 t283.length co141, .bool t286, .bool t287, .int .i64 0]) ?_ 3 _ rfl; (with_reducible repeat (first | apply blk_drewN | apply blk_drew | apply blk_alloc)); refine blk_put (cs := #[.slice Ao141 t283.length co141, .bool t286, .bool false, .int .i64 0]) ?_ 2 _ rfl; (with_reducible repeat (first | apply blk_drewN | apply blk_drew | apply blk_alloc)); refine blk_put (cs := #[.slice Ao141 t283.length co141, .bool false, .bool false, .int .i64 0]) ?_ 1 _ rfl; (with_reducible repeat (first | apply blk_drewN | apply blk_drew | apply blk_alloc)); refine blk_put (cs := #[.slice none 0 0, .bool false, .bool false, .int .i64 0]) ?_ 0 _ rfl; (with_reducible repeat (first | apply blk_drewN | apply blk_drew | apply blk_alloc)); exact BK289.out⟩
     have n2_ : Aside0 (Below w.heap.size w ((((w140.setCell ⟨gb289, 0, none⟩ (.slice Ao141 t283.length co141)).setCell ⟨gb289, 1, none⟩ (.bool t286)).setCell ⟨gb289, 2, none⟩ (.bool t287)).setCell ⟨gb289, 3, none⟩ (.int .i64 t288))) := ⟨by repeat (first | exact HB.out | apply below_alloc | apply pw_below_drewN | apply below_drew1 | refine below_set ?_ GE289.out)⟩
     (try clear HO285)
     (try clear BK289)
     (try clear HB)
     generalize ((((w140.setCell ⟨gb289, 0, none⟩ (.slice Ao141 t283.length co141)).setCell ⟨gb289, 1, none⟩ (.bool t286)).setCell ⟨gb289, 2, none⟩ (.bool t287)).setCell ⟨gb289, 3, none⟩ (.int .i64 t288)) = w143 at n0_ n1_ n2_ ⊢
     have HO285 := n0_
     have BK289 := n1_
     have HB := n2_
     clear n0_ n1_ n2_
     have n0_ := Aside0.mk (Kd.V_drew HO285.out)
     have n1_ := Aside0.mk (blk_drew BK289.out)
     have n2_ := Aside0.mk (below_drew1 HB.out)
     clear HO285
     clear BK289
     clear HB
     have HO285 := n0_
     have BK289 := n1_
     have HB := n2_
     clear n0_ n1_ n2_
     refine start_ (n := 15) (S := fun w' => w'.cell? ⟨gb289, 0, none⟩ = some (.slice Ao141 t283.length co141) ∧ w'.cell? ⟨gb289, 1, none⟩ = some (.bool t286) ∧ w'.cell? ⟨gb289, 2, none⟩ = some (.bool t287) ∧ w'.cell? ⟨gb289, 3, none⟩ = some (.int .i64 t288)) (ds := []) #[false, false, false, false, false, false, false, false, false, false, false, false, false, false, false] (by kernel_rfl) rfl rfl ⟨(blk_cell BK289.out 0).trans rfl, (blk_cell BK289.out 1).trans rfl, (blk_cell BK289.out 2).trans rfl, (blk_cell BK289.out 3).trans rfl⟩ (fun hHeld => ?_); refine with_tabW clinkerlaw10_StatesWear.tab5 clinkerlaw10_StatesWear.bits5 (fun HT_ HW_ => ?_)
     generalize w143.drew = w144 at HO285 BK289 HB hHeld ⊢
     refine pure_ (i := 1) (N := some 26) (v := ?_) (a' := ?_) #[false, true, false, false, false, false, false, false, false, false, false, false, false, false, false] rfl rfl (any_of HT_.out (by kernel_rfl)) (fun _ _ _ h => h) (Or.inl ⟨by rfl, ?_⟩) ?_ ?_
     rotate_left
     ·
      intro w'
      go_simp
      with_reducible rfl
     rotate_left
     ·
      simp only [Act.put, List.setIfInBounds_toArray, List.set_cons_zero, List.set_cons_succ, i64_w, i32_w]
      rfl
     refine pure_ (i := 2) (N := some 27) (v := ?_) (a' := ?_) #[false, true, true, false, false, false, false, false, false, false, false, false, false, false, false] rfl rfl (any_of HT_.out (by kernel_rfl)) (fun _ _ _ h => h) (Or.inl ⟨by rfl, ?_⟩) ?_ ?_
     rotate_left
     ·
      intro w'
      go_simp
      with_reducible rfl
     rotate_left
     ·
      simp only [Act.put, List.setIfInBounds_toArray, List.set_cons_zero, List.set_cons_succ, i64_w, i32_w]
      rfl
     refine pure_ (i := 3) (N := some 28) (v := ?_) (a' := ?_) #[false, true, true, true, false, false, false, false, false, false, false, false, false, false, false] rfl rfl (any_of HT_.out (by kernel_rfl)) (fun _ _ _ h => h) (Or.inl ⟨by rfl, ?_⟩) ?_ ?_
     rotate_left
     ·
      intro w'
      go_simp
      with_reducible rfl
     rotate_left
     ·
      simp only [Act.put, List.setIfInBounds_toArray, List.set_cons_zero, List.set_cons_succ, i64_w, i32_w]
      rfl
     refine pure_ (i := 7) (N := some 32) (v := ?_) (a' := ?_) #[false, true, true, true, false, false, false, true, false, false, false, false, false, false, false] rfl rfl (any_of HT_.out (by kernel_rfl)) (fun _ _ _ h => h) (Or.inl ⟨by rfl, ?_⟩) ?_ ?_
     rotate_left
     ·
      intro w'
      go_simp
      with_reducible rfl
     rotate_left
     ·
      simp only [Act.put, List.setIfInBounds_toArray, List.set_cons_zero, List.set_cons_succ, i64_w, i32_w]
      rfl
     refine take_ (i := 0) (N := some 25) (v := ?_) (a' := ?_) #[true, true, true, true, false, false, false, true, false, false, false, false, false, false, false] rfl rfl (take_ofW HT_.out HW_.out (by kernel_rfl)) (fun _ _ _ h => h) (Or.inl ⟨by rfl, ?_⟩) hHeld ?_ ?_
     rotate_left
     ·
      rintro w' ⟨s0, s1, s2, s3⟩
      go_simp
      with_reducible rfl
     rotate_left
     ·
      simp only [Act.put, List.setIfInBounds_toArray, List.set_cons_zero, List.set_cons_succ, i64_w, i32_w]
      rfl
     refine take_ (i := 4) (N := some 29) (v := ?_) (a' := ?_) #[true, true, true, true, true, false, false, true, false, false, false, false, false, false, false] rfl rfl (take_ofW HT_.out HW_.out (by kernel_rfl)) (fun _ _ _ h => h) (Or.inl ⟨by rfl, ?_⟩) hHeld ?_ ?_
     rotate_left
     ·
      rintro w' ⟨s0, s1, s2, s3⟩
      go_simp
      with_reducible rfl
     rotate_left
     ·
      simp only [Act.put, List.setIfInBounds_toArray, List.set_cons_zero, List.set_cons_succ, i64_w, i32_w]
      rfl
     refine pure_ (i := 5) (N := some 30) (v := ?_) (a' := ?_) #[true, true, true, true, true, true, false, true, false, false, false, false, false, false, false] rfl rfl (any_of HT_.out (by kernel_rfl)) (fun _ _ _ h => h) (Or.inl ⟨by rfl, ?_⟩) ?_ ?_
     rotate_left
     ·
      intro w'
      go_simp
      with_reducible rfl
     rotate_left
     ·
      simp only [Act.put, List.setIfInBounds_toArray, List.set_cons_zero, List.set_cons_succ, i64_w, i32_w]
      rfl
     refine pure_ (i := 6) (N := some 31) (v := ?_) (a' := ?_) #[true, true, true, true, true, true, true, true, false, false, false, false, false, false, false] rfl rfl (any_of HT_.out (by kernel_rfl)) (fun _ _ _ h => h) (Or.inl ⟨by rfl, ?_⟩) ?_ ?_
     rotate_left
     ·
      intro w'
      go_simp
      with_reducible rfl
     rotate_left
     ·
      simp only [Act.put, List.setIfInBounds_toArray, List.set_cons_zero, List.set_cons_succ, i64_w, i32_w]
      rfl
     refine join_ (σ := Value × Nat) 2 #[true, true, true, true, true, true, true, true, true, true, true, true, true, false, false] (fun s_ => [(33, .tuple #[.agg #[s_.1, .bool t293, .bool t294, .int .i64 t295], .int .i64 t296]), (9, .pointer (some ⟨s_.2, 0, none⟩)), (24, .tuple #[.agg #[s_.1, .bool t293, .bool t294, .int .i64 t295], .int .i64 t296]), (34, .agg #[s_.1, .bool t293, .bool t294, .int .i64 t295]), (35, .int .i64 t296)]) (fun s_ w' => (w'.cell? ⟨gb289, 0, none⟩ = some (.slice Ao141 t283.length co141) ∧ w'.cell? ⟨gb289, 1, none⟩ = some (.bool t286) ∧ w'.cell? ⟨gb289, 2, none⟩ = some (.bool t287) ∧ w'.cell? ⟨gb289, 3, none⟩ = some (.int .i64 t288)) ∧ (Kd.V k45 45 w' w.heap.size (fun k_ => k_ ≠ gb289 ∧ k_ ≠ s_.2) (.slice Ao141 t283.length co141) t283) ∧ (Kd.V k45 45 w' w.heap.size (fun k_ => k_ ≠ gb289 ∧ k_ ≠ s_.2) s_.1 t290) ∧ (w'.heap[gb289]? = some (.cells #[.slice Ao141 t283.length co141, .bool t286, .bool t287, .int .i64 t288] 26 (0, 0))) ∧ (w'.heap[s_.2]? = some (.cells #[.slice none 0 0, .bool false, .bool false, .int .i64 0] 26 (0, 0))) ∧ (w.heap.size ≤ s_.2) ∧ (w.heap.size ≤ s_.2) ∧ (gb289 ≠ s_.2) ∧ (s_.2 ≠ gb289) ∧ (Below w.heap.size w w')) ?_ ?_
     rotate_left
     ·
      intro hCont
      refine two_ (i := 8) (j := 12) (Ni := some 33) (Nj := some 9) #[true, true, true, true, true, true, true, true, true, false, false, false, false, false, false] #[true, true, true, true, true, true, true, true, false, false, false, false, true, false, false] rfl rfl rfl rfl (two_of HT_.out (by kernel_rfl)) (by decide) (by decide) (fun K hK => ?_) (fun K hK => ?_)
      ·
       skip
       refine goes_ Try.func9 (by kernel_rfl) rfl #[.agg #[.slice Ao141 t283.length co141, .bool t286, .bool t287, .int .i64 t288], .int .i64 (Int.tmod (wrap64 (a2)) (t283.length : Int)), .agg #[.int .i64 0, .string (⟨#[]⟩ : ByteArray), .string (⟨#[]⟩ : ByteArray), .int .i64 0]] (by rfl) rfl rfl (by (try simp only [List.map_toArray, List.map_cons, List.map_nil]); first | done | rfl | (simp only [List.length_drop, List.length_take]; rfl)) ?_
       with_reducible refine (clinkerref05_Erase.calls _ _ t283 t286 t287 t288 (Int.tmod (wrap64 (a2)) (t283.length : Int)) 0 (⟨#[]⟩ : ByteArray) (⟨#[]⟩ : ByteArray) 0 t290 t293 t294 t295 t296 _ ?side1 ?side2 A8.out).mono ?_
       (case side1 => repeat (first | exact (Kd.V_reads' HO285.out).2.2 | (with_reducible refine Kd.C_alloc ?_ _) | (with_reducible refine Kd.C_drewN ?_ _) | (with_reducible refine Kd.C_drew ?_)))
       (case side2 => exact (Kd.V_reads' HO285.out).2.1)
       rintro e w145 ⟨v291, rfl, ho0, hb⟩
       refine ⟨_, rfl, ?_⟩
       have n0_ := Aside0.mk (Kd.V_below (by (with_reducible repeat (first | apply Kd.V_alloc | apply Kd.V_drewN | apply Kd.V_drew)); exact HO285.out) hb)
       have n1_ := Aside0.mk (Kd.V_lower (Kd.V_mono (ok' := fun k_ => k_ ≠ gb289) ho0 (fun k_ hk_ => (Kd.freshB (g := gb289) (o := .cells #[.slice Ao141 t283.length co141, .bool t286, .bool t287, .int .i64 t288] 26 (0, 0)) (by (with_reducible repeat (first | apply blk_drewN | apply blk_drew | apply blk_alloc)); exact BK289.out) k_ hk_))) (below_size (by repeat (first | exact HB.out | apply below_alloc | apply pw_below_drewN | apply below_drew1 | refine below_set ?_ GE289.out))))
       have n2_ := Aside0.mk (blk_below (g := gb289) (o := .cells #[.slice Ao141 t283.length co141, .bool t286, .bool t287, .int .i64 t288] 26 (0, 0)) (by (with_reducible repeat (first | apply blk_drewN | apply blk_drew | apply blk_alloc)); exact BK289.out) hb)
       have n3_ := Aside0.mk (below_step (by repeat (first | exact HB.out | apply below_alloc | apply pw_below_drewN | apply below_drew1 | refine below_set ?_ GE289.out)) hb)
       clear HO285
       clear BK289
       clear HB
       have HO285 := n0_
       have HO292 := n1_
       have BK289 := n2_
       have HB := n3_
       clear n0_ n1_ n2_ n3_
       (try clear hb)
       (try clear hb2)
       (try clear hk)
       (try clear hi)
       (try clear ho0)
       refine hK.out _ _ ⟨(blk_cell BK289.out 0).trans rfl, (blk_cell BK289.out 1).trans rfl, (blk_cell BK289.out 2).trans rfl, (blk_cell BK289.out 3).trans rfl⟩ (fun hHeld => ?_)
       clear hK K
       refine norm_ (a' := ?_) ?_ ?_
       rotate_left
       ·
        show Act.put _ (some 33) _ = _
        simp only [Act.put, List.setIfInBounds_toArray, List.set_cons_zero, List.set_cons_succ, i64_w, i32_w]
        rfl
       refine pure_ (i := 9) (N := some 24) (v := ?_) (a' := ?_) #[true, true, true, true, true, true, true, true, true, true, false, false, false, false, false] rfl rfl (any_of HT_.out (by kernel_rfl)) (fun _ _ _ h => h) (Or.inl ⟨by rfl, ?_⟩) ?_ ?_
       rotate_left
       ·
        intro w'
        go_simp
        with_reducible rfl
       rotate_left
       ·
        simp only [Act.put, List.setIfInBounds_toArray, List.set_cons_zero, List.set_cons_succ, i64_w, i32_w]
        rfl
       refine pure_ (i := 10) (N := some 34) (v := ?_) (a' := ?_) #[true, true, true, true, true, true, true, true, true, true, true, false, false, false, false] rfl rfl (any_of HT_.out (by kernel_rfl)) (fun _ _ _ h => h) (Or.inl ⟨by rfl, ?_⟩) ?_ ?_
       rotate_left
       ·
        intro w'
        go_simp
        with_reducible rfl
       rotate_left
       ·
        simp only [Act.put, List.setIfInBounds_toArray, List.set_cons_zero, List.set_cons_succ, i64_w, i32_w]
        rfl
       refine pure_ (i := 11) (N := some 35) (v := ?_) (a' := ?_) #[true, true, true, true, true, true, true, true, true, true, true, true, false, false, false] rfl rfl (any_of HT_.out (by kernel_rfl)) (fun _ _ _ h => h) (Or.inl ⟨by rfl, ?_⟩) ?_ ?_
       rotate_left
       ·
        intro w'
        go_simp
        with_reducible rfl
       rotate_left
       ·
        simp only [Act.put, List.setIfInBounds_toArray, List.set_cons_zero, List.set_cons_succ, i64_w, i32_w]
        rfl
       refine one_ (i := 12) (N := some 9) #[true, true, true, true, true, true, true, true, true, true, true, true, true, false, false] rfl rfl (one_of HT_.out (by kernel_rfl)) (by decide) (fun K hK => ?_)
       refine box_step ?hg (N := 9) ?hd (cs := #[.slice none 0 0, .bool false, .bool false, .int .i64 0]) (t := 26) ?hr ?_; (case hd => rfl); (case hg => rfl); (case hr => first | (go_simp; done) | (go_simp; rfl))
       intro gb297 hg w146 hbox hb
       have n0_ := Aside0.mk (Kd.V_below (Kd.V_elderB (by (with_reducible repeat (first | apply Kd.V_alloc | apply Kd.V_drewN | apply Kd.V_drew)); exact HO285.out) gb297 (Nat.le_of_eq hg.symm)) hb)
       have n1_ := Aside0.mk (Kd.V_below (Kd.V_elderB (by (with_reducible repeat (first | apply Kd.V_alloc | apply Kd.V_drewN | apply Kd.V_drew)); exact HO292.out) gb297 (Nat.le_of_eq hg.symm)) hb)
       have n2_ := Aside0.mk (blk_below (g := gb289) (o := .cells #[.slice Ao141 t283.length co141, .bool t286, .bool t287, .int .i64 t288] 26 (0, 0)) (by (with_reducible repeat (first | apply blk_drewN | apply blk_drew | apply blk_alloc)); exact BK289.out) hb)
       have n3_ := Aside0.mk (below_step (by repeat (first | exact HB.out | apply below_alloc | apply pw_below_drewN | apply below_drew1 | refine below_set ?_ GE289.out)) hb)
       have n4_ := Aside0.mk (hbox)
       have n5_ := Aside0.mk ((by rw [hg]; exact (below_size (by repeat (first | exact HB.out | apply below_alloc | apply pw_below_drewN | apply below_drew1 | refine below_set ?_ GE289.out))) : w.heap.size ≤ gb297))
       have n6_ := Aside0.mk ((by rw [hg]; exact (below_size (by repeat (first | exact HB.out | apply below_alloc | apply pw_below_drewN | apply below_drew1 | refine below_set ?_ GE289.out))) : w.heap.size ≤ gb297))
       have n7_ := Aside0.mk ((by rw [hg]; exact Nat.ne_of_lt (blk_lt (g := gb289) (o := .cells #[.slice Ao141 t283.length co141, .bool t286, .bool t287, .int .i64 t288] 26 (0, 0)) (by (with_reducible repeat (first | apply blk_drewN | apply blk_drew | apply blk_alloc)); exact BK289.out)) : gb289 ≠ gb297))
       have n8_ := Aside0.mk ((by rw [hg]; exact Nat.ne_of_gt (blk_lt (g := gb289) (o := .cells #[.slice Ao141 t283.length co141, .bool t286, .bool t287, .int .i64 t288] 26 (0, 0)) (by (with_reducible repeat (first | apply blk_drewN | apply blk_drew | apply blk_alloc)); exact BK289.out)) : gb297 ≠ gb289))
       clear HO285
       clear HO292
       clear BK289
       clear HB
       have HO285 := n0_
       have HO292 := n1_
       have BK289 := n2_
       have HB := n3_
       have BK297 := n4_
       have GW297 := n5_
       have GE297 := n6_
       have NB289_297 := n7_
       have NB297_289 := n8_
       clear n0_ n1_ n2_ n3_ n4_ n5_ n6_ n7_ n8_
       clear hb hbox hg
       refine hK.out _ _ ⟨(blk_cell BK289.out 0).trans rfl, (blk_cell BK289.out 1).trans rfl, (blk_cell BK289.out 2).trans rfl, (blk_cell BK289.out 3).trans rfl⟩ (fun hHeld => ?_)
       clear hK K
       refine norm_ (a' := ?_) ?_ ?_
       rotate_left
       ·
        show Act.put _ (some 9) _ = _
        simp only [Act.put, List.setIfInBounds_toArray, List.set_cons_zero, List.set_cons_succ, i64_w, i32_w]
        rfl
       exact norm_ (by simp only [putAll, Act.put, List.setIfInBounds_toArray, List.set_cons_zero, List.set_cons_succ]) (hCont (v291, gb297) _ ⟨hHeld, (by (with_reducible repeat (first | apply Kd.V_alloc | apply Kd.V_drewN | apply Kd.V_drew)); exact HO285.out), (by (with_reducible repeat (first | apply Kd.V_alloc | apply Kd.V_drewN | apply Kd.V_drew)); exact HO292.out), (by (with_reducible repeat (first | apply blk_drewN | apply blk_drew | apply blk_alloc)); exact BK289.out), (by (with_reducible repeat (first | apply blk_drewN | apply blk_drew | apply blk_alloc)); exact BK297.out), GW297.out, GE297.out, NB289_297.out, NB297_289.out, (by repeat (first | (with_reducible first | exact HB.out | apply below_alloc | apply pw_below_drewN | apply below_drew1 | refine below_set ?_ GE289.out | refine below_set ?_ GE297.out) | exact HB.out))⟩)
      ·
       skip
       refine box_step ?hg (N := 9) ?hd (cs := #[.slice none 0 0, .bool false, .bool false, .int .i64 0]) (t := 26) ?hr ?_; (case hd => rfl); (case hg => rfl); (case hr => first | (go_simp; done) | (go_simp; rfl))
       intro gb297 hg w145 hbox hb
       have n0_ := Aside0.mk (Kd.V_below (Kd.V_elderB (by (with_reducible repeat (first | apply Kd.V_alloc | apply Kd.V_drewN | apply Kd.V_drew)); exact HO285.out) gb297 (Nat.le_of_eq hg.symm)) hb)
       have n1_ := Aside0.mk (blk_below (g := gb289) (o := .cells #[.slice Ao141 t283.length co141, .bool t286, .bool t287, .int .i64 t288] 26 (0, 0)) (by (with_reducible repeat (first | apply blk_drewN | apply blk_drew | apply blk_alloc)); exact BK289.out) hb)
       have n2_ := Aside0.mk (below_step (by repeat (first | exact HB.out | apply below_alloc | apply pw_below_drewN | apply below_drew1 | refine below_set ?_ GE289.out)) hb)
       have n3_ := Aside0.mk (hbox)
       have n4_ := Aside0.mk ((by rw [hg]; exact (below_size (by repeat (first | exact HB.out | apply below_alloc | apply pw_below_drewN | apply below_drew1 | refine below_set ?_ GE289.out))) : w.heap.size ≤ gb297))
       have n5_ := Aside0.mk ((by rw [hg]; exact (below_size (by repeat (first | exact HB.out | apply below_alloc | apply pw_below_drewN | apply below_drew1 | refine below_set ?_ GE289.out))) : w.heap.size ≤ gb297))
       have n6_ := Aside0.mk ((by rw [hg]; exact Nat.ne_of_lt (blk_lt (g := gb289) (o := .cells #[.slice Ao141 t283.length co141, .bool t286, .bool t287, .int .i64 t288] 26 (0, 0)) (by (with_reducible repeat (first | apply blk_drewN | apply blk_drew | apply blk_alloc)); exact BK289.out)) : gb289 ≠ gb297))
       have n7_ := Aside0.mk ((by rw [hg]; exact Nat.ne_of_gt (blk_lt (g := gb289) (o := .cells #[.slice Ao141 t283.length co141, .bool t286, .bool t287, .int .i64 t288] 26 (0, 0)) (by (with_reducible repeat (first | apply blk_drewN | apply blk_drew | apply blk_alloc)); exact BK289.out)) : gb297 ≠ gb289))
       clear HO285
       clear BK289
       clear HB
       have HO285 := n0_
       have BK289 := n1_
       have HB := n2_
       have BK297 := n3_
       have GW297 := n4_
       have GE297 := n5_
       have NB289_297 := n6_
       have NB297_289 := n7_
       clear n0_ n1_ n2_ n3_ n4_ n5_ n6_ n7_
       clear hb hbox hg
       refine hK.out _ _ ⟨(blk_cell BK289.out 0).trans rfl, (blk_cell BK289.out 1).trans rfl, (blk_cell BK289.out 2).trans rfl, (blk_cell BK289.out 3).trans rfl⟩ (fun hHeld => ?_)
       clear hK K
       refine norm_ (a' := ?_) ?_ ?_
       rotate_left
       ·
        show Act.put _ (some 9) _ = _
        simp only [Act.put, List.setIfInBounds_toArray, List.set_cons_zero, List.set_cons_succ, i64_w, i32_w]
        rfl
       refine one_ (i := 8) (N := some 33) #[true, true, true, true, true, true, true, true, true, false, false, false, true, false, false] rfl rfl (one_of HT_.out (by kernel_rfl)) (by decide) (fun K hK => ?_)
       refine goes_ Try.func9 (by kernel_rfl) rfl #[.agg #[.slice Ao141 t283.length co141, .bool t286, .bool t287, .int .i64 t288], .int .i64 (Int.tmod (wrap64 (a2)) (t283.length : Int)), .agg #[.int .i64 0, .string (⟨#[]⟩ : ByteArray), .string (⟨#[]⟩ : ByteArray), .int .i64 0]] (by rfl) rfl rfl (by (try simp only [List.map_toArray, List.map_cons, List.map_nil]); first | done | rfl | (simp only [List.length_drop, List.length_take]; rfl)) ?_
       with_reducible refine (clinkerref05_Erase.calls _ _ t283 t286 t287 t288 (Int.tmod (wrap64 (a2)) (t283.length : Int)) 0 (⟨#[]⟩ : ByteArray) (⟨#[]⟩ : ByteArray) 0 t290 t293 t294 t295 t296 _ ?side1 ?side2 A8.out).mono ?_
       (case side1 => repeat (first | exact (Kd.V_reads' HO285.out).2.2 | (with_reducible refine Kd.C_alloc ?_ _) | (with_reducible refine Kd.C_drewN ?_ _) | (with_reducible refine Kd.C_drew ?_)))
       (case side2 => exact (Kd.V_reads' HO285.out).2.1)
       rintro e w146 ⟨v291, rfl, ho0, hb⟩
       refine ⟨_, rfl, ?_⟩
       have n0_ := Aside0.mk (Kd.V_below (by (with_reducible repeat (first | apply Kd.V_alloc | apply Kd.V_drewN | apply Kd.V_drew)); exact HO285.out) hb)
       have n1_ := Aside0.mk (Kd.V_lower (Kd.V_mono (ok' := fun k_ => k_ ≠ gb289 ∧ k_ ≠ gb297) ho0 (fun k_ hk_ => ⟨(Kd.freshB (g := gb289) (o := .cells #[.slice Ao141 t283.length co141, .bool t286, .bool t287, .int .i64 t288] 26 (0, 0)) (by (with_reducible repeat (first | apply blk_drewN | apply blk_drew | apply blk_alloc)); exact BK289.out) k_ hk_), (Kd.freshB (g := gb297) (o := .cells #[.slice none 0 0, .bool false, .bool false, .int .i64 0] 26 (0, 0)) (by (with_reducible repeat (first | apply blk_drewN | apply blk_drew | apply blk_alloc)); exact BK297.out) k_ hk_)⟩)) (below_size (by repeat (first | (with_reducible first | exact HB.out | apply below_alloc | apply pw_below_drewN | apply below_drew1 | refine below_set ?_ GE289.out | refine below_set ?_ GE297.out) | exact HB.out))))
       have n2_ := Aside0.mk (blk_below (g := gb289) (o := .cells #[.slice Ao141 t283.length co141, .bool t286, .bool t287, .int .i64 t288] 26 (0, 0)) (by (with_reducible repeat (first | apply blk_drewN | apply blk_drew | apply blk_alloc)); exact BK289.out) hb)
       have n3_ := Aside0.mk (blk_below (g := gb297) (o := .cells #[.slice none 0 0, .bool false, .bool false, .int .i64 0] 26 (0, 0)) (by (with_reducible repeat (first | apply blk_drewN | apply blk_drew | apply blk_alloc)); exact BK297.out) hb)
       have n4_ := Aside0.mk (below_step (by repeat (first | (with_reducible first | exact HB.out | apply below_alloc | apply pw_below_drewN | apply below_drew1 | refine below_set ?_ GE289.out | refine below_set ?_ GE297.out) | exact HB.out)) hb)
       clear HO285
       clear BK289
       clear BK297
       clear HB
       have HO285 := n0_
       have HO292 := n1_
       have BK289 := n2_
       have BK297 := n3_
       have HB := n4_
       clear n0_ n1_ n2_ n3_ n4_
       (try clear hb)
       (try clear hb2)
       (try clear hk)
       (try clear hi)
       (try clear ho0)
       refine hK.out _ _ ⟨(blk_cell BK289.out 0).trans rfl, (blk_cell BK289.out 1).trans rfl, (blk_cell BK289.out 2).trans rfl, (blk_cell BK289.out 3).trans rfl⟩ (fun hHeld => ?_)
       clear hK K
       refine norm_ (a' := ?_) ?_ ?_
       rotate_left
       ·
        show Act.put _ (some 33) _ = _
        simp only [Act.put, List.setIfInBounds_toArray, List.set_cons_zero, List.set_cons_succ, i64_w, i32_w]
        rfl
       refine pure_ (i := 9) (N := some 24) (v := ?_) (a' := ?_) #[true, true, true, true, true, true, true, true, true, true, false, false, true, false, false] rfl rfl (any_of HT_.out (by kernel_rfl)) (fun _ _ _ h => h) (Or.inl ⟨by rfl, ?_⟩) ?_ ?_
       rotate_left
       ·
        intro w'
        go_simp
        with_reducible rfl
       rotate_left
       ·
        simp only [Act.put, List.setIfInBounds_toArray, List.set_cons_zero, List.set_cons_succ, i64_w, i32_w]
        rfl
       refine pure_ (i := 10) (N := some 34) (v := ?_) (a' := ?_) #[true, true, true, true, true, true, true, true, true, true, true, false, true, false, false] rfl rfl (any_of HT_.out (by kernel_rfl)) (fun _ _ _ h => h) (Or.inl ⟨by rfl, ?_⟩) ?_ ?_
       rotate_left
       ·
        intro w'
        go_simp
        with_reducible rfl
       rotate_left
       ·
        simp only [Act.put, List.setIfInBounds_toArray, List.set_cons_zero, List.set_cons_succ, i64_w, i32_w]
        rfl
       refine pure_ (i := 11) (N := some 35) (v := ?_) (a' := ?_) #[true, true, true, true, true, true, true, true, true, true, true, true, true, false, false] rfl rfl (any_of HT_.out (by kernel_rfl)) (fun _ _ _ h => h) (Or.inl ⟨by rfl, ?_⟩) ?_ ?_
       rotate_left
       ·
        intro w'
        go_simp
        with_reducible rfl
       rotate_left
       ·
        simp only [Act.put, List.setIfInBounds_toArray, List.set_cons_zero, List.set_cons_succ, i64_w, i32_w]
        rfl
       exact norm_ (by simp only [putAll, Act.put, List.setIfInBounds_toArray, List.set_cons_zero, List.set_cons_succ]) (hCont (v291, gb297) _ ⟨hHeld, (by (with_reducible repeat (first | apply Kd.V_alloc | apply Kd.V_drewN | apply Kd.V_drew)); exact HO285.out), (by (with_reducible repeat (first | apply Kd.V_alloc | apply Kd.V_drewN | apply Kd.V_drew)); exact HO292.out), (by (with_reducible repeat (first | apply blk_drewN | apply blk_drew | apply blk_alloc)); exact BK289.out), (by (with_reducible repeat (first | apply blk_drewN | apply blk_drew | apply blk_alloc)); exact BK297.out), GW297.out, GE297.out, NB289_297.out, NB297_289.out, (by repeat (first | (with_reducible first | exact HB.out | apply below_alloc | apply pw_below_drewN | apply below_drew1 | refine below_set ?_ GE289.out | refine below_set ?_ GE297.out) | exact HB.out))⟩)
     rintro ⟨v291, gb297⟩ w147 ⟨hS_, h0_, h1_, h2_, h3_, h4_, h5_, h6_, h7_, h8_⟩
     have n0_ : Aside0 (Kd.V k45 45 w147 w.heap.size (fun k_ => k_ ≠ gb289 ∧ k_ ≠ gb297) (.slice Ao141 t283.length co141) t283) := ⟨h0_⟩
     have n1_ : Aside0 (Kd.V k45 45 w147 w.heap.size (fun k_ => k_ ≠ gb289 ∧ k_ ≠ gb297) v291 t290) := ⟨h1_⟩
     have n2_ : Aside0 (w147.heap[gb289]? = some (.cells #[.slice Ao141 t283.length co141, .bool t286, .bool t287, .int .i64 t288] 26 (0, 0))) := ⟨h2_⟩
     have n3_ : Aside0 (w147.heap[gb297]? = some (.cells #[.slice none 0 0, .bool false, .bool false, .int .i64 0] 26 (0, 0))) := ⟨h3_⟩
     have n4_ : Aside0 (w.heap.size ≤ gb297) := ⟨h4_⟩
     have n5_ : Aside0 (w.heap.size ≤ gb297) := ⟨h5_⟩
     have n6_ : Aside0 (gb289 ≠ gb297) := ⟨h6_⟩
     have n7_ : Aside0 (gb297 ≠ gb289) := ⟨h7_⟩
     have n8_ : Aside0 (Below w.heap.size w w147) := ⟨h8_⟩
     clear HO285
     clear BK289
     clear HB
     clear h0_ h1_ h2_ h3_ h4_ h5_ h6_ h7_ h8_
     have HO285 := n0_
     have HO292 := n1_
     have BK289 := n2_
     have BK297 := n3_
     have GW297 := n4_
     have GE297 := n5_
     have NB289_297 := n6_
     have NB297_289 := n7_
     have HB := n8_
     clear n0_ n1_ n2_ n3_ n4_ n5_ n6_ n7_ n8_
     have hHeld : w147.cell? ⟨gb289, 0, none⟩ = some (.slice Ao141 t283.length co141) ∧ w147.cell? ⟨gb289, 1, none⟩ = some (.bool t286) ∧ w147.cell? ⟨gb289, 2, none⟩ = some (.bool t287) ∧ w147.cell? ⟨gb289, 3, none⟩ = some (.int .i64 t288) := hS_
     obtain ⟨Ao148, co148, eo148⟩ := Kd.V_slice HO292.out
     (first | subst eo148 | (injection eo148 with f1_ f2_ f3_; have f4_ := f1_.symm; have f5_ := f3_.symm; clear f1_ f2_ f3_; subst f4_; subst f5_))
     refine norm_ (a' := ?_) ?_ ?_
     rotate_left
     ·
      simp only [putAll, Act.put, List.setIfInBounds_toArray, List.set_cons_zero, List.set_cons_succ]
      rfl
     refine one_ (i := 13) (N := none) #[true, true, true, true, true, true, true, true, true, true, true, true, true, true, false] rfl rfl (one_of HT_.out (by kernel_rfl)) (by decide) (fun K hK => ?_)
     have hs149 : w147.cell? ⟨gb297, 0, none⟩ = some (.slice none 0 0) := (blk_cell BK297.out 0).trans rfl
     have hfs149 := blk_frozen BK297.out 0
     have hns149_0 := NB289_297.out
     have hms149_0 := NB297_289.out
     have hs150 : w147.cell? ⟨gb297, 1, none⟩ = some (.bool false) := (blk_cell BK297.out 1).trans rfl
     have hfs150 := blk_frozen BK297.out 1
     have hns150_0 := NB289_297.out
     have hms150_0 := NB297_289.out
     have hs151 : w147.cell? ⟨gb297, 2, none⟩ = some (.bool false) := (blk_cell BK297.out 2).trans rfl
     have hfs151 := blk_frozen BK297.out 2
     have hns151_0 := NB289_297.out
     have hms151_0 := NB297_289.out
     have hs152 : w147.cell? ⟨gb297, 3, none⟩ = some (.int .i64 0) := (blk_cell BK297.out 3).trans rfl
     have hfs152 := blk_frozen BK297.out 3
     have hns152_0 := NB289_297.out
     have hms152_0 := NB297_289.out
     refine skip_ (w1 := ?_) (by rfl) rfl ?_ ?_
     rotate_left
     ·
      go_simp
      rfl
     refine hK.out _ _ ⟨((cell_far (p := ⟨gb297, _, none⟩) NB289_297.out _).trans (((cell_far (p := ⟨gb297, _, none⟩) NB289_297.out _).trans (((cell_far (p := ⟨gb297, _, none⟩) NB289_297.out _).trans (((cell_far (p := ⟨gb297, _, none⟩) NB289_297.out _).trans (hHeld.1)))))))), ((cell_far (p := ⟨gb297, _, none⟩) NB289_297.out _).trans (((cell_far (p := ⟨gb297, _, none⟩) NB289_297.out _).trans (((cell_far (p := ⟨gb297, _, none⟩) NB289_297.out _).trans (((cell_far (p := ⟨gb297, _, none⟩) NB289_297.out _).trans (hHeld.2.1)))))))), ((cell_far (p := ⟨gb297, _, none⟩) NB289_297.out _).trans (((cell_far (p := ⟨gb297, _, none⟩) NB289_297.out _).trans (((cell_far (p := ⟨gb297, _, none⟩) NB289_297.out _).trans (((cell_far (p := ⟨gb297, _, none⟩) NB289_297.out _).trans (hHeld.2.2.1)))))))), ((cell_far (p := ⟨gb297, _, none⟩) NB289_297.out _).trans (((cell_far (p := ⟨gb297, _, none⟩) NB289_297.out _).trans (((cell_far (p := ⟨gb297, _, none⟩) NB289_297.out _).trans (((cell_far (p := ⟨gb297, _, none⟩) NB289_297.out _).trans (hHeld.2.2.2))))))))⟩ (fun hHeld => ?_)
     clear hK K
     refine pure_ (i := 14) (N := some 10) (v := ?_) (a' := ?_) #[true, true, true, true, true, true, true, true, true, true, true, true, true, true, true] rfl rfl (any_of HT_.out (by kernel_rfl)) (fun _ _ _ h => h) (Or.inl ⟨by rfl, ?_⟩) ?_ ?_
     rotate_left
     ·
      intro w'
      go_simp
      with_reducible rfl
     rotate_left
     ·
      simp only [Act.put, List.setIfInBounds_toArray, List.set_cons_zero, List.set_cons_succ, i64_w, i32_w]
      rfl
     refine done_ (done_of HT_.out (by kernel_rfl)) ?_
     have hnb153 := NB289_297.out
     have hnc153 := NB297_289.out
     have hcz154_0 : w147.cell? ⟨gb289, 0, none⟩ = some (.slice Ao141 t283.length co141) := (blk_cell BK289.out 0).trans rfl
     have hcz154_1 : w147.cell? ⟨gb289, 1, none⟩ = some (.bool t286) := (blk_cell BK289.out 1).trans rfl
     have hcz154_2 : w147.cell? ⟨gb289, 2, none⟩ = some (.bool t287) := (blk_cell BK289.out 2).trans rfl
     have hcz154_3 : w147.cell? ⟨gb289, 3, none⟩ = some (.int .i64 t288) := (blk_cell BK289.out 3).trans rfl
     have hfz154_0 := blk_frozen BK289.out 0
     have hfz154_1 := blk_frozen BK289.out 1
     have hfz154_2 := blk_frozen BK289.out 2
     have hfz154_3 := blk_frozen BK289.out 3
     try go_wp2_with (first | ((with_reducible refine gate_callee (f := 14) rfl ?_); refine goesL_ (some 38) rfl rfl Try.func14 (by kernel_rfl) rfl #[.agg #[.slice Ao141 t283.length co141, .bool t286, .bool t287, .int .i64 t288]] rfl (by (try simp only [List.map_toArray, List.map_cons, List.map_nil]); first | done | rfl | (simp only [List.length_drop, List.length_take]; rfl)) ?_; (with_reducible refine (states_Wear.calls k _ _ t283 t286 t287 t288 t298 t299 _ ?side1 ?side2 A9.out).mono ?_); (case side1 => refine (Kd.V_reads' (e := 45) (base := w.heap.size) (ok := fun k_ => (k_ ≠ gb289 ∧ k_ ≠ gb297)) (n := t283.length) (c := co141) ?_).2.2; exact (by (with_reducible repeat (first | apply Kd.V_alloc | apply Kd.V_drewN | apply Kd.V_drew)); exact (Kd.V_mono (Kd.V_far (p := ⟨gb297, 3, none⟩) (Kd.V_far (p := ⟨gb297, 2, none⟩) (Kd.V_far (p := ⟨gb297, 1, none⟩) (Kd.V_far (p := ⟨gb297, 0, none⟩) (Kd.V_mono HO285.out (fun k_ hk => (⟨hk, hk.2⟩ : _ ∧ k_ ≠ gb297))) (fun _ hk => hk.2) _) (fun _ hk => hk.2) (.bool t293)) (fun _ hk => hk.2) (.bool t294)) (fun _ hk => hk.2) _) (fun _ h_ => h_.1)))); (case side2 => exact (Kd.V_reads' HO285.out).2.1); rintro e w155 ⟨rfl, hb⟩; refine ⟨_, rfl, ?_⟩; have n0_ := Aside0.mk (Kd.V_below (by (with_reducible repeat (first | apply Kd.V_alloc | apply Kd.V_drewN | apply Kd.V_drew)); exact (Kd.V_mono (Kd.V_far (p := ⟨gb297, 3, none⟩) (Kd.V_far (p := ⟨gb297, 2, none⟩) (Kd.V_far (p := ⟨gb297, 1, none⟩) (Kd.V_far (p := ⟨gb297, 0, none⟩) (Kd.V_mono HO285.out (fun k_ hk => (⟨hk, hk.2⟩ : _ ∧ k_ ≠ gb297))) (fun _ hk => hk.2) _) (fun _ hk => hk.2) (.bool t293)) (fun _ hk => hk.2) (.bool t294)) (fun _ hk => hk.2) _) (fun _ h_ => h_.1))) hb); have n1_ := Aside0.mk (Kd.V_below (by (with_reducible repeat (first | apply Kd.V_alloc | apply Kd.V_drewN | apply Kd.V_drew)); exact (Kd.V_mono (Kd.V_far (p := ⟨gb297, 3, none⟩) (Kd.V_far (p := ⟨gb297, 2, none⟩) (Kd.V_far (p := ⟨gb297, 1, none⟩) (Kd.V_far (p := ⟨gb297, 0, none⟩) (Kd.V_mono HO292.out (fun k_ hk => (⟨hk, hk.2⟩ : _ ∧ k_ ≠ gb297))) (fun _ hk => hk.2) _) (fun _ hk => hk.2) (.bool t293)) (fun _ hk => hk.2) (.bool t294)) (fun _ hk => hk.2) _) (fun _ h_ => h_.1))) hb); have n2_ := Aside0.mk (blk_below (g := gb289) (o := .cells #[.slice Ao141 t283.length co141, .bool t286, .bool t287, .int .i64 t288] 26 (0, 0)) (by (with_reducible repeat (first | apply blk_drewN | apply blk_drew | apply blk_alloc)); refine blk_far ?_ NB289_297.out _; (with_reducible repeat (first | apply blk_drewN | apply blk_drew | apply blk_alloc)); refine blk_far ?_ NB289_297.out _; (with_reducible repeat (first | apply blk_drewN | apply blk_drew | apply blk_alloc)); refine blk_far ?_ NB289_297.out _; (with_reducible repeat (first | apply blk_drewN | apply blk_drew | apply blk_alloc)); refine blk_far ?_ NB289_297.out _; (with_reducible repeat (first | apply blk_drewN | apply blk_drew | apply blk_alloc)); exact BK289.out) hb); have n3_ := Aside0.mk (blk_below (g := gb297) (o := .cells #[.slice Ao148 t290.length co148, .bool t293, .bool t294, .int .i64 t295] 26 (0, 0)) (by (with_reducible repeat (first | apply blk_drewN | apply blk_drew | apply blk_alloc)); refine blk_put (cs := #[.slice Ao148 t290.length co148, .bool t293, .bool t294, .int .i64 0]) ?_ 3 _ rfl; (with_reducible repeat (first | apply blk_drewN | apply blk_drew | apply blk_alloc)); refine blk_put (cs := #[.slice Ao148 t290.length co148, .bool t293, .bool false, .int .i64 0]) ?_ 2 _ rfl; (with_reducible repeat (first | apply blk_drewN | apply blk_drew | apply blk_alloc)); refine blk_put (cs := #[.slice Ao148 t290.length co148, .bool false, .bool false, .int .i64 0]) ?_ 1 _ rfl; (with_reducible repeat (first | apply blk_drewN | apply blk_drew | apply blk_alloc)); refine blk_put (cs := #[.slice none 0 0, .bool false, .bool false, .int .i64 0]) ?_ 0 _ rfl; (with_reducible repeat (first | apply blk_drewN | apply blk_drew | apply blk_alloc)); exact BK297.out) hb); have n4_ := Aside0.mk (below_step (by repeat (first | (with_reducible first | exact HB.out | apply below_alloc | apply pw_below_drewN | apply below_drew1 | refine below_set ?_ GE289.out | refine below_set ?_ GE297.out) | exact HB.out)) hb); clear HO285; clear HO292; clear BK289; clear BK297; clear HB; have HO285 := n0_; have HO292 := n1_; have BK289 := n2_; have BK297 := n3_; have HB := n4_; clear n0_ n1_ n2_ n3_ n4_; (try clear hb); (try clear hb2); (try clear hk); (try clear hi); have hcz156_0 : w155.cell? ⟨gb297, 0, none⟩ = some (.slice Ao148 t290.length co148) := (blk_cell BK297.out 0).trans rfl; have hcz156_1 : w155.cell? ⟨gb297, 1, none⟩ = some (.bool t293) := (blk_cell BK297.out 1).trans rfl; have hcz156_2 : w155.cell? ⟨gb297, 2, none⟩ = some (.bool t294) := (blk_cell BK297.out 2).trans rfl; have hcz156_3 : w155.cell? ⟨gb297, 3, none⟩ = some (.int .i64 t295) := (blk_cell BK297.out 3).trans rfl; have hfz156_0 := blk_frozen BK297.out 0; have hfz156_1 := blk_frozen BK297.out 1; have hfz156_2 := blk_frozen BK297.out 2; have hfz156_3 := blk_frozen BK297.out 3) | ((with_reducible refine gate_callee (f := 14) rfl ?_); refine goesL_ (some 43) rfl rfl Try.func14 (by kernel_rfl) rfl #[.agg #[.slice Ao148 t290.length co148, .bool t293, .bool t294, .int .i64 t295]] rfl (by (try simp only [List.map_toArray, List.map_cons, List.map_nil]); first | done | rfl | (simp only [List.length_drop, List.length_take]; rfl)) ?_; (with_reducible refine (states_Wear.calls k _ _ t290 t293 t294 t295 t300 t301 _ ?side1 ?side2 A10.out).mono ?_); (case side1 => repeat (first | exact (Kd.V_reads' HO292.out).2.2 | (with_reducible refine Kd.C_alloc ?_ _) | (with_reducible refine Kd.C_drewN ?_ _) | (with_reducible refine Kd.C_drew ?_))); (case side2 => exact (Kd.V_reads' HO292.out).2.1); rintro e w157 ⟨rfl, hb⟩; refine ⟨_, rfl, ?_⟩; have n0_ := Aside0.mk (Kd.V_below (by (with_reducible repeat (first | apply Kd.V_alloc | apply Kd.V_drewN | apply Kd.V_drew)); exact HO285.out) hb); have n1_ := Aside0.mk (Kd.V_below (by (with_reducible repeat (first | apply Kd.V_alloc | apply Kd.V_drewN | apply Kd.V_drew)); exact HO292.out) hb); have n2_ := Aside0.mk (blk_below (g := gb289) (o := .cells #[.slice Ao141 t283.length co141, .bool t286, .bool t287, .int .i64 t288] 26 (0, 0)) (by (with_reducible repeat (first | apply blk_drewN | apply blk_drew | apply blk_alloc)); exact BK289.out) hb); have n3_ := Aside0.mk (blk_below (g := gb297) (o := .cells #[.slice Ao148 t290.length co148, .bool t293, .bool t294, .int .i64 t295] 26 (0, 0)) (by (with_reducible repeat (first | apply blk_drewN | apply blk_drew | apply blk_alloc)); exact BK297.out) hb); have n4_ := Aside0.mk (below_step (by repeat (first | (with_reducible first | exact HB.out | apply below_alloc | apply pw_below_drewN | apply below_drew1 | refine below_set ?_ GE289.out | refine below_set ?_ GE297.out) | exact HB.out)) hb); clear HO285; clear HO292; clear BK289; clear BK297; clear HB; have HO285 := n0_; have HO292 := n1_; have BK289 := n2_; have BK297 := n3_; have HB := n4_; clear n0_ n1_ n2_ n3_ n4_; (try clear hb); (try clear hb2); (try clear hk); (try clear hi)))
     go_ret
     exact ⟨by first | rfl | (simp [errW_none, errW_some] <;> rfl) | (simp [*, errW_none, errW_some] <;> rfl), by repeat (first | (with_reducible first | exact HB.out | apply below_alloc | apply pw_below_drewN | apply below_drew1 | refine below_set ?_ GE289.out | refine below_set ?_ GE297.out) | exact HB.out)⟩
    ·
     rw [if_neg c137] at H
     have c137b0 : (t298 == t300) = false := beq_eq_false_iff_ne.mpr c137
     have c137b1 : (t298 != t300) = true := bne_iff_ne.mpr c137
     exact absurd (H.trans (congrArg some hrt.out)) (by simp)
 ·
  replace c5 := Bool.eq_false_iff.mpr c5
  subst c5
  have H1 : (some false) = some r := by rw [if_neg (show ¬ (false = true) by decide)] at H; exact H
  clear H
  have H := H1
  clear H1
  exact absurd (H.trans (congrArg some hrt.out)) (by simp)

/-- THE ONE PURE STATEMENT of clinkerlaw10_StatesWear: yours. -/
def clinkerlaw10_StatesWear.Pure : Prop := ∀ (l0 : List Int) (a1 : Int) (a2 : Int), l0.length ≤ maxLen → l0.length * 2 ≤ 140737488351232 → (∀ x ∈ l0, (Lit.int .u16 x).wf = true) → (Lit.int .u8 a1).wf = true → (Lit.int .u8 a2).wf = true → ∃ k, clinkerlaw10_StatesWear.f k l0 a1 a2 = some true
theorem clinkerlaw10_StatesWear.walk (P : clinkerlaw10_StatesWear.Pure) (a0 : Option Addr) (len0 cap0 : Nat) (z0 : List Int) (a1 : Int) (a2 : Int) (w : World) (w0 : (a0 = none ∧ len0 = 0 ∧ cap0 = 0 ∧ z0 = []) ∨ ∃ x, a0 = some x ∧ len0 ≤ cap0 ∧ cap0 ≤ maxLen ∧ z0.length = cap0 ∧ (∀ i, i < z0.length → w.cell? (x.add i) = some (.int .u16 (z0.getD i 0))) ∧ ∀ n ∈ z0, (Lit.int .u16 n).wf = true) (y0 : len0 * 2 ≤ 140737488351232) (w1 : (Lit.int .u8 a1).wf = true) (w2 : (Lit.int .u8 a2).wf = true) :
  Calls Try.prog 5 #[.slice a0 len0 cap0, .int .u8 a1, .int .u8 a2] w fun e w' => e = .returned (.bool true) ∧ Below w.heap.size w w' := by
 obtain ⟨l0, rfl, hr0, hm0, hw0, hc0⟩ := ReadsInt.ofRowC w0
 obtain ⟨k, h⟩ := P l0 a1 a2 hm0 y0 hw0 w1 w2
 refine (clinkerlaw10_StatesWear.calls k _ _ l0 a1 a2 true ⟨rfl⟩ w (Kd.C_of_reads (d := (0 : Int)) (h1 := fun _ => rfl) hr0) hc0 h).mono ?_
 rintro e w' ⟨rfl, hd⟩
 exact ⟨rfl, hd⟩

end Go.Proofs.Ytnbhkogjamdfhaa.PAll
