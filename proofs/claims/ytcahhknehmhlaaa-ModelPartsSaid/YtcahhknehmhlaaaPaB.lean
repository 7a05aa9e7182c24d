/- Written by a program of this session (wip/xp) out of the translation: functions in plain Lean, and proofs that the calls come to these. -/
import Derived.Test.YtcahhknehmhlaaaPAllx0
import Derived.Test.YtcahhknehmhlaaaPaA
import Derived.Test.YtcahhknehmhlaaaPAllx4
import Derived.Test.YtcahhknehmhlaaaPAllx6
import Derived.Test.YtcahhknehmhlaaaPAllx7
import Derived.Test.YtcahhknehmhlaaaPAllx8
import Derived.Test.YtcahhknehmhlaaaPAllx16
import Derived.Test.YtcahhknehmhlaaaShort
namespace Go.Proofs.Ytcahhknehmhlaaa.PAll
open Go.RowKit Go.Proofs.YtcahhknehmhlaaaW.PrintWords Go.Proofs.YtcahhknehmhlaaaW.PrintLast Go.Proofs.YtcahhknehmhlaaaW.PrintMore
attribute [local go_sem] max2_int min2_int max_two min_two max_three min_three max_four min_four   -- for this text's walks alone
set_option linter.unusedVariables false
set_option linter.unusedSimpArgs false

set_option maxHeartbeats 8000000 in
set_option maxRecDepth 100000 in
theorem clinkerlaw13_ModelParts.calls (k : Nat) (A0 : Option Addr) (c0 : Nat) (l0 : List (List Int)) (a1 : Int) (r : Bool) (hrt : Aside0 (r = true)) (w : World) (hr0 : Kd.C (Kd.slice 5 (Kd.int .u8)) w A0 l0.length l0) (hc0 : l0.length ≤ c0) (h : clinkerlaw13_ModelParts.f k l0 a1 = some r) :
  Calls Try.prog 7 #[.slice A0 l0.length c0, .int .u8 a1] w fun e w' => e = .returned (.bool r) ∧ Below w.heap.size w w' := by
 have hu24 := Try.underlying24
 have hu36 := Try.underlying36
 have HR0 := Aside0.mk hr0
 have HC0 := Aside0.mk hc0
 clear hr0 hc0
 have HB := Aside0.mk (Below.refl w.heap.size w)
 have H : ((clinkerlaw13_awake.f k).bind fun t377 => (if t377 = true then ((model_New.f 12).bind fun t378 => (clinkerlaw13_ModelParts.l0 k l0 a1 t377 t378 0)) else (some false))) = some r := h
 clear h
 replace H := Option.bind_eq_some_iff.mp H
 obtain ⟨t377, A30, H⟩ := H
 replace H : (if t377 = true then ((model_New.f 12).bind fun t378 => (clinkerlaw13_ModelParts.l0 k l0 a1 t377 t378 0)) else (some false)) = some r := H
 have A3 := Aside0.mk A30
 clear A30
 by_cases c4 : t377 = true
 case neg =>
  replace c4 := Bool.eq_false_iff.mpr c4
  subst c4
  have H1 : (some false) = some r := by rw [if_neg (show ¬ (false = true) by decide)] at H; exact H
  clear H
  have H := H1
  clear H1
  exact absurd (H.trans (congrArg some hrt.out)) (by simp)
 subst c4
 have H1 : ((model_New.f 12).bind fun t378 => (clinkerlaw13_ModelParts.l0 k l0 a1 true t378 0)) = some r := by rw [if_pos rfl] at H; exact H
 clear H
 have H := H1
 clear H1
 replace H := Option.bind_eq_some_iff.mp H
 obtain ⟨t378, A50, H⟩ := H
 replace H : (clinkerlaw13_ModelParts.l0 k l0 a1 true t378 0) = some r := H
 have A5 := Aside0.mk A50
 clear A50
 have H' := Aside0.mk H
 clear H
 go_enter Try.func7, Try.ntmps7
 go_wp2_with (first | ((with_reducible refine gate_callee (f := 9) rfl ?_); refine goesL_ (some 16) rfl rfl Try.func9 (by kernel_rfl) rfl #[] rfl (by (try simp only [List.map_toArray, List.map_cons, List.map_nil]); first | done | rfl | (simp only [List.length_drop, List.length_take]; rfl)) ?_; (with_reducible refine (clinkerlaw13_awake.calls k  true _ A3.out).mono ?_); rintro e w6 ⟨rfl, hb⟩; refine ⟨_, rfl, ?_⟩; replace HB := Aside0.mk (bst hb); (try clear hb); (try clear hb2); (try clear hk); (try clear hi)) | ((with_reducible refine gate_callee (f := 14) rfl ?_); refine goesL_ (some 19) rfl rfl Try.func14 (by kernel_rfl) rfl #[.int .i64 12] rfl (by (try simp only [List.map_toArray, List.map_cons, List.map_nil]); first | done | rfl | (simp only [List.length_drop, List.length_take]; rfl)) ?_; (with_reducible refine (model_New.calls 12 t378 _ A5.out).mono ?_); rintro e w7 ⟨v379, rfl, ho0, hb⟩; refine ⟨_, rfl, ?_⟩; have HO380 := Aside0.mk (Kd.R_lower ho0 bsz); replace HB := Aside0.mk (bst hb); (try clear hb); (try clear hb2); (try clear hk); (try clear hi); (try clear ho0)))
 go_loopg [6, 7] k (fun kq v6 v7 w' => ∃ (x6_1 : List ByteArray) (x7_1 : Int), v7 = .int .i64 x7_1 ∧ Aside0 (clinkerlaw13_ModelParts.l0 kq l0 a1 true x6_1 x7_1 = some r) ∧ Aside0 (kq ≤ k) ∧ Aside0 (Kd.V Kd.string 9 w' w.heap.size (fun _ => True) v6 x6_1) ∧ Aside0 (Below w.heap.size w w'))
 case atStart => exact ⟨(t378), (0), (by first | rfl | (simp; done) | (simp [*]; done)), H', ⟨Nat.le_refl _⟩, ⟨Kd.R_V (mR HO380.out)⟩, ⟨mH⟩⟩
 case round =>
  clear H'
  try clear c1
  try clear p2
  try clear c4
  try clear c7
  obtain ⟨x6_1, x7_1, rfl, HA, HK1, HO_6, HB⟩ := hrel
  cases gk with
  | zero => exact absurd HA.out (by simp [clinkerlaw13_ModelParts.l0])
  | succ k1 =>
   have H := HA.out
   clear HA
   simp only [clinkerlaw13_ModelParts.l0] at H
   have HC8 := Aside0.mk H
   clear H
   go_upto_region 6 with (fail)
   go_cut [27] (fun v27 wc => ∃ (kq : Nat) (x27_7 : Bool), v27 = .bool x27_7 ∧ Aside0 (clinkerlaw13_ModelParts.j1 kq l0 a1 true x6_1 x7_1 x27_7 = some r) ∧ Aside0 (kq ≤ k1) ∧ Aside0 (Kd.V Kd.string 9 wc w.heap.size (fun _ => True) u6 x6_1) ∧ Aside0 (Below w.heap.size w wc))
   case first =>
    have H := HC8.out
    clear HC8
    by_cases c9 : x7_1 < (l0.length : Int)
    case neg =>
     rw [if_neg c9] at H
     have c9b0 : decide (x7_1 < (l0.length : Int)) = false := decide_eq_false c9
     clear c9
     (first | rw [c9b0] | (simp only [i64_w, i32_w]; rw [c9b0]) | skip)
     have H' := Aside0.mk H
     clear H
     go_wp2
     go_meet
     case rel => exact ⟨_, (false), (by first | rfl | (simp; done) | (simp [*]; done)), H', ⟨by have := HK1.out; (try clear c47); (try clear c84); first | omega | exact Nat.le_refl _⟩, ⟨mV HO_6.out⟩, ⟨mH⟩⟩
    rw [if_pos c9] at H
    have c9b0 : decide (x7_1 < (l0.length : Int)) = true := decide_eq_true c9
    clear c9
    (first | rw [c9b0] | (simp only [i64_w, i32_w]; rw [c9b0]) | skip)
    have H' := Aside0.mk H
    clear H
    go_wp2
    go_meet
    case rel => exact ⟨_, (decide (x7_1 < 6)), (by first | rfl | (simp; done) | (simp [*]; done)), H', ⟨by have := HK1.out; (try clear c47); (try clear c84); first | omega | exact Nat.le_refl _⟩, ⟨mV HO_6.out⟩, ⟨mH⟩⟩
   case rest =>
    clear HC8
    try clear c1
    try clear p2
    try clear c4
    try clear c7
    try clear c9
    try clear c9b0
    try clear p2
    obtain ⟨kq, x27_7, rfl, HA, HJ7, HO_6, HB⟩ := hcut
    cases kq with
    | zero => exact absurd HA.out (by simp [clinkerlaw13_ModelParts.j1])
    | succ kj7 =>
     have H := HA.out
     clear HA
     simp only [clinkerlaw13_ModelParts.j1] at H
     by_cases c10 : x27_7 = true
     case neg =>
      replace c10 := Bool.eq_false_iff.mpr c10
      subst c10
      have H1 : (some true) = some r := by rw [if_neg (show ¬ (false = true) by decide)] at H; exact H
      clear H
      have H := H1
      clear H1
      obtain rfl := Option.some.inj H
      go_wp2
      go_ret
      exact ⟨by first | rfl | (simp [errW_none, errW_some] <;> rfl) | (simp [*, errW_none, errW_some] <;> rfl), by repeat (first | exact HB.out | apply lA | apply lN | apply lD)⟩
     subst c10
     have H1 : (if 0 ≤ x7_1 then (if x7_1 < (l0.length : Int) then ((clinkerlaw13_Made.f (rd_L2 l0 x7_1)).bind fun bt382 => ((model_Part.f x6_1 bt382.1 bt382.2.1 bt382.2.2.1 bt382.2.2.2 (Int.tmod (wrap64 (a1)) 6)).bind fun t389 => ((model_Part.f x6_1 bt382.1 bt382.2.1 bt382.2.2.1 bt382.2.2.2 (wrap64 ((Int.tmod (wrap64 (a1)) 6) + 1))).bind fun t392 => ((model_Do.f x6_1 bt382.1 bt382.2.1 bt382.2.2.1 bt382.2.2.2).bind fun bt395 => (if (t389.length : Int) = 12 then (if (t392.length : Int) = 12 then (clinkerlaw13_ModelParts.j2 kj7 l0 a1 true x6_1 x7_1 (Int.tmod (wrap64 (a1)) 6) t389 t392 bt395.1 ((bt395.1.length : Int) != 12) bt382.1 bt382.2.1 bt382.2.2.1 bt382.2.2.2 bt395.2.1 bt395.2.2) else (clinkerlaw13_ModelParts.j2 kj7 l0 a1 true x6_1 x7_1 (Int.tmod (wrap64 (a1)) 6) t389 t392 bt395.1 true bt382.1 bt382.2.1 bt382.2.2.1 bt382.2.2.2 bt395.2.1 bt395.2.2)) else (clinkerlaw13_ModelParts.j2 kj7 l0 a1 true x6_1 x7_1 (Int.tmod (wrap64 (a1)) 6) t389 t392 bt395.1 true bt382.1 bt382.2.1 bt382.2.2.1 bt382.2.2.2 bt395.2.1 bt395.2.2)))))) else (none)) else (none)) = some r := by rw [if_pos rfl] at H; exact H
     clear H
     have H := H1
     clear H1
     by_cases c11 : 0 ≤ x7_1
     case neg =>
      rw [if_neg c11] at H
      exact absurd H (by simp)
     rw [if_pos c11] at H
     have c11b0 : decide (0 ≤ x7_1) = true := decide_eq_true c11
     clear c11
     by_cases c12 : x7_1 < (l0.length : Int)
     case neg =>
      rw [if_neg c12] at H
      exact absurd H (by simp)
     rw [if_pos c12] at H
     have c12b0 : decide (x7_1 < (l0.length : Int)) = true := decide_eq_true c12
     clear c12
     replace H := Option.bind_eq_some_iff.mp H
     obtain ⟨⟨t382, t383, t384, t385⟩, A130, H⟩ := H
     replace H : ((model_Part.f x6_1 t382 t383 t384 t385 (Int.tmod (wrap64 (a1)) 6)).bind fun t389 => ((model_Part.f x6_1 t382 t383 t384 t385 (wrap64 ((Int.tmod (wrap64 (a1)) 6) + 1))).bind fun t392 => ((model_Do.f x6_1 t382 t383 t384 t385).bind fun bt395 => (if (t389.length : Int) = 12 then (if (t392.length : Int) = 12 then (clinkerlaw13_ModelParts.j2 kj7 l0 a1 true x6_1 x7_1 (Int.tmod (wrap64 (a1)) 6) t389 t392 bt395.1 ((bt395.1.length : Int) != 12) t382 t383 t384 t385 bt395.2.1 bt395.2.2) else (clinkerlaw13_ModelParts.j2 kj7 l0 a1 true x6_1 x7_1 (Int.tmod (wrap64 (a1)) 6) t389 t392 bt395.1 true t382 t383 t384 t385 bt395.2.1 bt395.2.2)) else (clinkerlaw13_ModelParts.j2 kj7 l0 a1 true x6_1 x7_1 (Int.tmod (wrap64 (a1)) 6) t389 t392 bt395.1 true t382 t383 t384 t385 bt395.2.1 bt395.2.2))))) = some r := H
     have A13 := Aside0.mk A130
     clear A130
     replace H := Option.bind_eq_some_iff.mp H
     obtain ⟨t389, A140, H⟩ := H
     replace H : ((model_Part.f x6_1 t382 t383 t384 t385 (wrap64 ((Int.tmod (wrap64 (a1)) 6) + 1))).bind fun t392 => ((model_Do.f x6_1 t382 t383 t384 t385).bind fun bt395 => (if (t389.length : Int) = 12 then (if (t392.length : Int) = 12 then (clinkerlaw13_ModelParts.j2 kj7 l0 a1 true x6_1 x7_1 (Int.tmod (wrap64 (a1)) 6) t389 t392 bt395.1 ((bt395.1.length : Int) != 12) t382 t383 t384 t385 bt395.2.1 bt395.2.2) else (clinkerlaw13_ModelParts.j2 kj7 l0 a1 true x6_1 x7_1 (Int.tmod (wrap64 (a1)) 6) t389 t392 bt395.1 true t382 t383 t384 t385 bt395.2.1 bt395.2.2)) else (clinkerlaw13_ModelParts.j2 kj7 l0 a1 true x6_1 x7_1 (Int.tmod (wrap64 (a1)) 6) t389 t392 bt395.1 true t382 t383 t384 t385 bt395.2.1 bt395.2.2)))) = some r := H
     have A14 := Aside0.mk A140
     clear A140
     replace H := Option.bind_eq_some_iff.mp H
     obtain ⟨t392, A150, H⟩ := H
     replace H : ((model_Do.f x6_1 t382 t383 t384 t385).bind fun bt395 => (if (t389.length : Int) = 12 then (if (t392.length : Int) = 12 then (clinkerlaw13_ModelParts.j2 kj7 l0 a1 true x6_1 x7_1 (Int.tmod (wrap64 (a1)) 6) t389 t392 bt395.1 ((bt395.1.length : Int) != 12) t382 t383 t384 t385 bt395.2.1 bt395.2.2) else (clinkerlaw13_ModelParts.j2 kj7 l0 a1 true x6_1 x7_1 (Int.tmod (wrap64 (a1)) 6) t389 t392 bt395.1 true t382 t383 t384 t385 bt395.2.1 bt395.2.2)) else (clinkerlaw13_ModelParts.j2 kj7 l0 a1 true x6_1 x7_1 (Int.tmod (wrap64 (a1)) 6) t389 t392 bt395.1 true t382 t383 t384 t385 bt395.2.1 bt395.2.2))) = some r := H
     have A15 := Aside0.mk A150
     clear A150
     replace H := Option.bind_eq_some_iff.mp H
     obtain ⟨⟨t395, t398, t399⟩, A160, H⟩ := H
     replace H : (if (t389.length : Int) = 12 then (if (t392.length : Int) = 12 then (clinkerlaw13_ModelParts.j2 kj7 l0 a1 true x6_1 x7_1 (Int.tmod (wrap64 (a1)) 6) t389 t392 t395 ((t395.length : Int) != 12) t382 t383 t384 t385 t398 t399) else (clinkerlaw13_ModelParts.j2 kj7 l0 a1 true x6_1 x7_1 (Int.tmod (wrap64 (a1)) 6) t389 t392 t395 true t382 t383 t384 t385 t398 t399)) else (clinkerlaw13_ModelParts.j2 kj7 l0 a1 true x6_1 x7_1 (Int.tmod (wrap64 (a1)) 6) t389 t392 t395 true t382 t383 t384 t385 t398 t399)) = some r := H
     have A16 := Aside0.mk A160
     clear A160
     have HC17 := Aside0.mk H
     clear H
     have p381 : 0 ≤ (x7_1 : Int) := of_decide_eq_true (by first | (with_reducible assumption) | assumption)
     have q381 : x7_1 < (l0.length : Int) := of_decide_eq_true (by first | (with_reducible assumption) | assumption)
     obtain ⟨ad381, A381_0, c381_0, e381, hx381_0, hl381_0, hi381_0⟩ := at_L2 HR0.out x7_1 p381 q381
     cases e381
     replace hx381_0 := (HB.out.cell (World.block_lt_of_cell? w _ hx381_0)).trans hx381_0
     have HR381_0 := Aside0.mk hi381_0
     have HC381_0 := Aside0.mk hl381_0
     clear hi381_0 hl381_0
     replace p381 := eq_true p381
     replace q381 := eq_true q381
     try go_wp2_with (first | ((with_reducible refine gate_callee (f := 16) rfl ?_); refine goesL_ (some 34) rfl rfl Try.func16 (by kernel_rfl) rfl #[.slice A381_0 (rd_L2 l0 x7_1).length c381_0] rfl (by (try simp only [List.map_toArray, List.map_cons, List.map_nil]); first | done | rfl | (simp only [List.length_drop, List.length_take]; rfl)) ?_; (with_reducible refine (clinkerlaw13_Made.calls _ _ (rd_L2 l0 x7_1) t382 t383 t384 t385 _ ?side1 ?side2 A13.out).mono ?_); (case side1 => repeat (first | exact (Kd.C_below HR381_0.out HB.out) | (with_reducible refine Kd.C_alloc ?_ _) | (with_reducible refine Kd.C_drewN ?_ _) | (with_reducible refine Kd.C_drew ?_))); (case side2 => exact HC381_0.out); rintro e w18 ⟨v386, rfl, ho0, hb⟩; refine ⟨_, rfl, ?_⟩; replace HO_6 := Aside0.mk (Kd.V_elder' (mV HO_6.out) (Kd.R_base ho0) hb); have HO387 := Aside0.mk (Kd.R_lower ho0 bsz); replace HB := Aside0.mk (bst hb); (try clear hb); (try clear hb2); (try clear hk); (try clear hi); (try clear ho0)) | ((with_reducible refine gate_dst (N := 8) rfl ?_); (try (refine gate_guard (by rfl) ?_; dsimp only)); refine box_event ?hg (N := 8) ?hd (cs := #[.int .i64 0, .int .i64 0, .int .i64 0, .slice none 0 0]) (t := 24) ?hr ?_; (case hd => rfl); (case hg => rfl); (case hr => first | (go_simp; done) | (go_simp; rfl)); intro gb388 hg w19 hbox hb; replace HO_6 := Aside0.mk (Kd.V_below (Kd.V_elderB (mV HO_6.out) gb388 (Nat.le_of_eq hg.symm)) hb); replace HO387 := Aside0.mk (Kd.R_below (mR HO387.out) hb); have BK388 := Aside0.mk (hbox); have GW388 := Aside0.mk ((bz hg : w.heap.size ≤ gb388)); replace HB := Aside0.mk (bst hb); have GE388 := GW388; clear hb hbox hg; obtain ⟨hcz20_0, hcz20_1, hcz20_2, hcz20_3, hfz20_0, hfz20_1, hfz20_2, hfz20_3⟩ := kc4 BK388.out; obtain ⟨Ao21, co21, eo21⟩ := Kd.R_slice HO387.out; subst eo21))
     have n0_ : Aside0 (Kd.V Kd.string 9 ((((w19.setCell ⟨gb388, 0, none⟩ (.int .i64 t382)).setCell ⟨gb388, 1, none⟩ (.int .i64 t383)).setCell ⟨gb388, 2, none⟩ (.int .i64 t384)).setCell ⟨gb388, 3, none⟩ (.slice Ao21 t385.length co21)) w.heap.size (fun k_ => some k_ ≠ (.slice Ao21 t385.length co21 : Value).ownBlock ∧ k_ ≠ gb388) u6 x6_1) := ⟨by (with_reducible repeat (first | apply vA | apply vN | apply vD)); exact Kd.V_mono (Kd.V_far (p := ⟨gb388, 3, none⟩) (Kd.V_far (p := ⟨gb388, 2, none⟩) (Kd.V_far (p := ⟨gb388, 1, none⟩) (Kd.V_far (p := ⟨gb388, 0, none⟩) (Kd.V_mono HO_6.out (fun k_ hk => (⟨hk, hk.2⟩ : _ ∧ k_ ≠ gb388))) (fun _ hk => hk.2) _) (fun _ hk => hk.2) _) (fun _ hk => hk.2) _) (fun _ hk => hk.2) _) (fun _ hk => ⟨hk.1.1.2, hk.1.2⟩)⟩
     have n1_ : Aside0 (Kd.R Kd.string 9 ((((w19.setCell ⟨gb388, 0, none⟩ (.int .i64 t382)).setCell ⟨gb388, 1, none⟩ (.int .i64 t383)).setCell ⟨gb388, 2, none⟩ (.int .i64 t384)).setCell ⟨gb388, 3, none⟩ (.slice Ao21 t385.length co21)) w.heap.size (fun _ => True) (.slice Ao21 t385.length co21) t385) := ⟨by (with_reducible repeat (first | apply rA | apply rN | apply rD)); exact Kd.R_mono (Kd.R_far (p := ⟨gb388, 3, none⟩) (Kd.R_far (p := ⟨gb388, 2, none⟩) (Kd.R_far (p := ⟨gb388, 1, none⟩) (Kd.R_far (p := ⟨gb388, 0, none⟩) (Kd.R_types HO387.out BK388.out (by decide)) (fun _ hk => hk.2) _) (fun _ hk => hk.2) _) (fun _ hk => hk.2) _) (fun _ hk => hk.2) _) (fun _ hk => trivial)⟩
     have n2_ : Aside0 (((((w19.setCell ⟨gb388, 0, none⟩ (.int .i64 t382)).setCell ⟨gb388, 1, none⟩ (.int .i64 t383)).setCell ⟨gb388, 2, none⟩ (.int .i64 t384)).setCell ⟨gb388, 3, none⟩ (.slice Ao21 t385.length co21)).heap[gb388]? = some (.cells #[.int .i64 t382, .int .i64 t383, .int .i64 t384, .slice Ao21 t385.length co21] 24 (0, 0))) := ⟨by (with_reducible repeat (first | apply bN | apply bD | apply bA)); refine blk_put (cs := #[.int .i64 t382, .int .i64 t383, .int .i64 t384, .slice none 0 0]) ?_ 3 _ rfl; (with_reducible repeat (first | apply bN | apply bD | apply bA)); refine blk_put (cs := #[.int .i64 t382, .int .i64 t383, .int .i64 0, .slice none 0 0]) ?_ 2 _ rfl; (with_reducible repeat (first | apply bN | apply bD | apply bA)); refine blk_put (cs := #[.int .i64 t382, .int .i64 0, .int .i64 0, .slice none 0 0]) ?_ 1 _ rfl; (with_reducible repeat (first | apply bN | apply bD | apply bA)); refine blk_put (cs := #[.int .i64 0, .int .i64 0, .int .i64 0, .slice none 0 0]) ?_ 0 _ rfl; (with_reducible repeat (first | apply bN | apply bD | apply bA)); exact BK388.out⟩
     have n3_ : Aside0 (Below w.heap.size w ((((w19.setCell ⟨gb388, 0, none⟩ (.int .i64 t382)).setCell ⟨gb388, 1, none⟩ (.int .i64 t383)).setCell ⟨gb388, 2, none⟩ (.int .i64 t384)).setCell ⟨gb388, 3, none⟩ (.slice Ao21 t385.length co21))) := ⟨mH⟩
     (try clear HO_6)
     (try clear HO387)
     (try clear BK388)
     (try clear HB)
     generalize ((((w19.setCell ⟨gb388, 0, none⟩ (.int .i64 t382)).setCell ⟨gb388, 1, none⟩ (.int .i64 t383)).setCell ⟨gb388, 2, none⟩ (.int .i64 t384)).setCell ⟨gb388, 3, none⟩ (.slice Ao21 t385.length co21)) = w22 at n0_ n1_ n2_ n3_ ⊢
     have HO_6 := n0_
     have HO387 := n1_
     have BK388 := n2_
     have HB := n3_
     clear n0_ n1_ n2_ n3_
     replace HO_6 := Aside0.mk (vD HO_6.out)
     replace HO387 := Aside0.mk (Kd.R_drew HO387.out)
     replace BK388 := Aside0.mk (bD BK388.out)
     replace HB := Aside0.mk (lD HB.out)
     obtain ⟨Ao24, co24, eo24⟩ := Kd.V_slice HO_6.out
     (first | subst eo24 | (injection eo24 with f1_ f2_ f3_; have f4_ := f1_.symm; have f5_ := f3_.symm; clear f1_ f2_ f3_; subst f4_; subst f5_))
     refine start_ (n := 11) (S := fun w' => w'.cell? ⟨gb388, 0, none⟩ = some (.int .i64 t382) ∧ w'.cell? ⟨gb388, 1, none⟩ = some (.int .i64 t383) ∧ w'.cell? ⟨gb388, 2, none⟩ = some (.int .i64 t384) ∧ w'.cell? ⟨gb388, 3, none⟩ = some (.slice Ao21 t385.length co21)) (ds := []) q0k19 (by kernel_rfl) rfl rfl ⟨(blk_cell BK388.out 0).trans rfl, (blk_cell BK388.out 1).trans rfl, (blk_cell BK388.out 2).trans rfl, (blk_cell BK388.out 3).trans rfl⟩ (fun hHeld => ?_); refine with_tabW clinkerlaw13_ModelParts.tab10 clinkerlaw13_ModelParts.bits10 (fun HT_ HW_ => ?_)
     generalize w22.drew = w23 at HO_6 HO387 BK388 HB hHeld ⊢
     refine pa 0 (some 38) ?_
     refine pa 2 (some 40) ?_
     refine pa 4 (some 42) ?_
     refine pa 6 (some 44) ?_
     refine pa 7 (some 45) ?_
     refine ta 1 (some 39) hHeld ?_
     refine ta 5 (some 43) hHeld ?_
     refine one_ (i := 3) (N := some 41) q1k19 rfl rfl (one_of HT_.out (by kernel_rfl)) (by decide) (fun K hK => ?_)
     refine goes_ Try.func19 (by kernel_rfl) rfl #[.slice Ao24 x6_1.length co24, .agg #[.int .i64 t382, .int .i64 t383, .int .i64 t384, .slice Ao21 t385.length co21], .int .i64 (Int.tmod (wrap64 (a1)) 6)] (by rfl) rfl rfl (by (try simp only [List.map_toArray, List.map_cons, List.map_nil]); first | done | rfl | (simp only [List.length_drop, List.length_take]; rfl)) ?_
     with_reducible refine (model_Part.calls _ _ x6_1 t382 t383 t384 _ _ t385 (Int.tmod (wrap64 (a1)) 6) t389 _ ?side1 ?side2 ?side3 ?side4 A14.out).mono ?_
     (case side1 => repeat (first | exact (Kd.V_reads' HO_6.out).2.2 | (with_reducible refine Kd.C_alloc ?_ _) | (with_reducible refine Kd.C_drewN ?_ _) | (with_reducible refine Kd.C_drew ?_)))
     (case side2 => exact (Kd.V_reads' HO_6.out).2.1)
     (case side3 => repeat (first | exact (Kd.R_reads' HO387.out).2.2 | (with_reducible refine Kd.C_alloc ?_ _) | (with_reducible refine Kd.C_drewN ?_ _) | (with_reducible refine Kd.C_drew ?_)))
     (case side4 => exact (Kd.R_reads' HO387.out).2.1)
     rintro e w25 ⟨v390, rfl, ho0, hb⟩
     refine ⟨_, rfl, ?_⟩
     replace HO_6 := Aside0.mk (Kd.V_elder' (mV HO_6.out) (Kd.R_base ho0) hb)
     have HO391 := Aside0.mk (Kd.R_lower (Kd.R_new' ho0 (Kd.R_lt (mR HO387.out))) bsz)
     replace HO387 := Aside0.mk (Kd.R_elder' (mR HO387.out) (Kd.R_base ho0) hb)
     replace BK388 := Aside0.mk (bb BK388.out hb)
     replace HB := Aside0.mk (bst hb)
     (try clear hb)
     (try clear hb2)
     (try clear hk)
     (try clear hi)
     (try clear ho0)
     refine hK.out _ _ ⟨(blk_cell BK388.out 0).trans rfl, (blk_cell BK388.out 1).trans rfl, (blk_cell BK388.out 2).trans rfl, (blk_cell BK388.out 3).trans rfl⟩ (fun hHeld => ?_)
     clear hK K
     refine na (some 41) ?_
     refine one_ (i := 8) (N := some 46) q2k19 rfl rfl (one_of HT_.out (by kernel_rfl)) (by decide) (fun K hK => ?_)
     refine goes_ Try.func19 (by kernel_rfl) rfl #[.slice Ao24 x6_1.length co24, .agg #[.int .i64 t382, .int .i64 t383, .int .i64 t384, .slice Ao21 t385.length co21], .int .i64 (wrap64 ((Int.tmod (wrap64 (a1)) 6) + 1))] (by rfl) rfl rfl (by (try simp only [List.map_toArray, List.map_cons, List.map_nil]); first | done | rfl | (simp only [List.length_drop, List.length_take]; rfl)) ?_
     with_reducible refine (model_Part.calls _ _ x6_1 t382 t383 t384 _ _ t385 (wrap64 ((Int.tmod (wrap64 (a1)) 6) + 1)) t392 _ ?side1 ?side2 ?side3 ?side4 A15.out).mono ?_
     (case side1 => repeat (first | exact (Kd.V_reads' HO_6.out).2.2 | (with_reducible refine Kd.C_alloc ?_ _) | (with_reducible refine Kd.C_drewN ?_ _) | (with_reducible refine Kd.C_drew ?_)))
     (case side2 => exact (Kd.V_reads' HO_6.out).2.1)
     (case side3 => repeat (first | exact (Kd.R_reads' HO387.out).2.2 | (with_reducible refine Kd.C_alloc ?_ _) | (with_reducible refine Kd.C_drewN ?_ _) | (with_reducible refine Kd.C_drew ?_)))
     (case side4 => exact (Kd.R_reads' HO387.out).2.1)
     rintro e w26 ⟨v393, rfl, ho0, hb⟩
     refine ⟨_, rfl, ?_⟩
     replace HO_6 := Aside0.mk (Kd.V_elder' (mV HO_6.out) (Kd.R_base ho0) hb)
     have HO394 := Aside0.mk (Kd.R_lower (Kd.R_new' (Kd.R_new' ho0 (Kd.R_lt (mR HO387.out))) (Kd.R_lt (mR HO391.out))) bsz)
     replace HO387 := Aside0.mk (Kd.R_elder' (mR HO387.out) (Kd.R_base ho0) hb)
     replace HO391 := Aside0.mk (Kd.R_elder' (mR HO391.out) (Kd.R_base ho0) hb)
     replace BK388 := Aside0.mk (bb BK388.out hb)
     replace HB := Aside0.mk (bst hb)
     (try clear hb)
     (try clear hb2)
     (try clear hk)
     (try clear hi)
     (try clear ho0)
     refine hK.out _ _ ⟨(blk_cell BK388.out 0).trans rfl, (blk_cell BK388.out 1).trans rfl, (blk_cell BK388.out 2).trans rfl, (blk_cell BK388.out 3).trans rfl⟩ (fun hHeld => ?_)
     clear hK K
     refine na (some 46) ?_
     refine pa 9 (some 10) ?_
     refine pa 10 (some 11) ?_
     refine done_ (done_of HT_.out (by kernel_rfl)) ?_
     obtain ⟨hcz27_0, hcz27_1, hcz27_2, hcz27_3, hfz27_0, hfz27_1, hfz27_2, hfz27_3⟩ := kc4 BK388.out
     go_upto_region 12 with (first | ((with_reducible refine gate_callee (f := 18) rfl ?_); refine goesL_ (some 50) rfl rfl Try.func18 (by kernel_rfl) rfl #[.slice Ao24 x6_1.length co24, .agg #[.int .i64 t382, .int .i64 t383, .int .i64 t384, .slice Ao21 t385.length co21]] rfl (by (try simp only [List.map_toArray, List.map_cons, List.map_nil]); first | done | rfl | (simp only [List.length_drop, List.length_take]; rfl)) ?_; (with_reducible refine (model_Do.calls (fun k_ => (((some k_ ≠ (.slice Ao21 t385.length co21 : Value).ownBlock ∧ k_ ≠ gb388) ∧ some k_ ≠ (v390 : Value).ownBlock) ∧ some k_ ≠ (v393 : Value).ownBlock)) _ _ x6_1 t382 t383 t384 _ _ t385 t395 t398 t399 _ ?side1 ?side2 ?side3 A16.out).mono ?_); (case side1 => exact HO_6.out); (case side2 => repeat (first | exact (Kd.R_reads' HO387.out).2.2 | (with_reducible refine Kd.C_alloc ?_ _) | (with_reducible refine Kd.C_drewN ?_ _) | (with_reducible refine Kd.C_drew ?_))); (case side3 => exact (Kd.R_reads' HO387.out).2.1); rintro e w28 ⟨v396, v400, rfl, ho0, ho1, hb⟩; refine ⟨_, rfl, ?_⟩; replace HO_6 := Aside0.mk (Kd.V_elder' (mV HO_6.out) (Kd.R_base ho1) hb); have HO397 := Aside0.mk (Kd.V_lower (Kd.V_mono (ok' := fun k_ => some k_ ≠ (v400 : Value).ownBlock ∧ some k_ ≠ (.slice Ao21 t385.length co21 : Value).ownBlock ∧ some k_ ≠ (v390 : Value).ownBlock ∧ some k_ ≠ (v393 : Value).ownBlock ∧ k_ ≠ gb388) ho0 (fun k_ hk_ => ⟨hk_.2, Or.elim hk_.1 (fun hs_ => hs_.1.1.1) (fun hn_ => (Kd.fresh' (Kd.R_lt (mR HO387.out)) k_ hn_)), Or.elim hk_.1 (fun hs_ => hs_.1.2) (fun hn_ => (Kd.fresh' (Kd.R_lt (mR HO391.out)) k_ hn_)), Or.elim hk_.1 (fun hs_ => hs_.2) (fun hn_ => (Kd.fresh' (Kd.R_lt (mR HO394.out)) k_ hn_)), Or.elim hk_.1 (fun hs_ => hs_.1.1.2) (fun hn_ => (Kd.freshB (g := gb388) (o := .cells #[.int .i64 t382, .int .i64 t383, .int .i64 t384, .slice Ao21 t385.length co21] 24 (0, 0)) (mB BK388.out) k_ hn_))⟩)) bsz); have HO401 := Aside0.mk (Kd.R_lower (Kd.R_new' (Kd.R_new' (Kd.R_new' (Kd.R_mono (ok' := fun k_ => True) ho1 (fun _ hk_ => trivial)) (Kd.R_lt (mR HO387.out))) (Kd.R_lt (mR HO391.out))) (Kd.R_lt (mR HO394.out))) bsz); replace HO387 := Aside0.mk (Kd.R_elder' (mR HO387.out) (Kd.R_base ho1) hb); replace HO391 := Aside0.mk (Kd.R_elder' (mR HO391.out) (Kd.R_base ho1) hb); replace HO394 := Aside0.mk (Kd.R_elder' (mR HO394.out) (Kd.R_base ho1) hb); replace BK388 := Aside0.mk (bb BK388.out hb); replace HB := Aside0.mk (bst hb); (try clear hb); (try clear hb2); (try clear hk); (try clear hi); (try clear ho0); (try clear ho1)) | ((with_reducible refine gate_dst (N := 13) rfl ?_); (try (refine gate_guard (by rfl) ?_; dsimp only)); refine box_event ?hg (N := 13) ?hd (cs := #[.int .i64 0, .slice none 0 0]) (t := 36) ?hr ?_; (case hd => rfl); (case hg => rfl); (case hr => first | (go_simp; done) | (go_simp; rfl)); intro gb402 hg w29 hbox hb; replace HO_6 := Aside0.mk (Kd.V_below (Kd.V_elderB (mV HO_6.out) gb402 (Nat.le_of_eq hg.symm)) hb); replace HO387 := Aside0.mk (Kd.R_below (mR HO387.out) hb); replace HO391 := Aside0.mk (Kd.R_below (mR HO391.out) hb); replace HO394 := Aside0.mk (Kd.R_below (mR HO394.out) hb); replace HO397 := Aside0.mk (Kd.V_below (Kd.V_elderB (mV HO397.out) gb402 (Nat.le_of_eq hg.symm)) hb); replace HO401 := Aside0.mk (Kd.R_below (mR HO401.out) hb); have BK402 := Aside0.mk (hbox); have GW402 := Aside0.mk ((bz hg : w.heap.size ≤ gb402)); replace HB := Aside0.mk (bst hb); have GE402 := GW402; have NB388_402 := Aside0.mk ((bl BK388.out hg : gb388 ≠ gb402)); replace BK388 := Aside0.mk (bb BK388.out hb); have NB402_388 := Aside0.mk NB388_402.out.symm; clear hb hbox hg; have hnb30 := NB402_388.out; have hnc30 := NB388_402.out; obtain ⟨hcz31_0, hcz31_1, hfz31_0, hfz31_1⟩ := kc2 BK402.out; obtain ⟨Ao32, co32, eo32⟩ := Kd.R_slice HO401.out; subst eo32))
     (try simp only [Act.put, List.setIfInBounds_toArray, List.set_cons_zero, List.set_cons_succ])
     go_cut [65] (fun v65 wc => ∃ (kq : Nat) (x65_16 : Bool), v65 = .bool x65_16 ∧ Aside0 (clinkerlaw13_ModelParts.j2 kq l0 a1 true x6_1 x7_1 (Int.tmod (wrap64 (a1)) 6) t389 t392 t395 x65_16 t382 t383 t384 t385 t398 t399 = some r) ∧ Aside0 (kq ≤ kj7) ∧ Aside0 (Kd.V Kd.string 9 wc w.heap.size (fun k_ => some k_ ≠ (v390 : Value).ownBlock ∧ some k_ ≠ (v393 : Value).ownBlock ∧ some k_ ≠ ((.slice Ao21 t385.length co21) : Value).ownBlock ∧ some k_ ≠ ((.slice Ao32 t399.length co32) : Value).ownBlock ∧ k_ ≠ gb388 ∧ k_ ≠ gb402) (.slice Ao24 x6_1.length co24) x6_1) ∧ Aside0 (Kd.R Kd.string 9 wc w.heap.size (fun k_ => some k_ ≠ (v393 : Value).ownBlock ∧ some k_ ≠ ((.slice Ao21 t385.length co21) : Value).ownBlock ∧ some k_ ≠ ((.slice Ao32 t399.length co32) : Value).ownBlock) v390 t389) ∧ Aside0 (Kd.R Kd.string 9 wc w.heap.size (fun k_ => some k_ ≠ (v390 : Value).ownBlock ∧ some k_ ≠ ((.slice Ao21 t385.length co21) : Value).ownBlock ∧ some k_ ≠ ((.slice Ao32 t399.length co32) : Value).ownBlock) v393 t392) ∧ Aside0 (Kd.V Kd.string 9 wc w.heap.size (fun k_ => some k_ ≠ (v390 : Value).ownBlock ∧ some k_ ≠ (v393 : Value).ownBlock ∧ some k_ ≠ ((.slice Ao21 t385.length co21) : Value).ownBlock ∧ some k_ ≠ ((.slice Ao32 t399.length co32) : Value).ownBlock ∧ k_ ≠ gb388 ∧ k_ ≠ gb402) v396 t395) ∧ Aside0 (Kd.R Kd.string 9 wc w.heap.size (fun k_ => some k_ ≠ (v390 : Value).ownBlock ∧ some k_ ≠ (v393 : Value).ownBlock ∧ some k_ ≠ ((.slice Ao32 t399.length co32) : Value).ownBlock) (.slice Ao21 t385.length co21) t385) ∧ Aside0 (Kd.R Kd.string 9 wc w.heap.size (fun k_ => some k_ ≠ (v390 : Value).ownBlock ∧ some k_ ≠ (v393 : Value).ownBlock ∧ some k_ ≠ ((.slice Ao21 t385.length co21) : Value).ownBlock) (.slice Ao32 t399.length co32) t399) ∧ Aside0 (wc.heap[gb388]? = some (.cells #[.int .i64 t382, .int .i64 t383, .int .i64 t384, (.slice Ao21 t385.length co21)] 24 (0, 0))) ∧ Aside0 (wc.heap[gb402]? = some (.cells #[.int .i64 t398, (.slice Ao32 t399.length co32)] 36 (0, 0))) ∧ Aside0 (Below w.heap.size w wc))
     case first =>
      have H := HC17.out
      clear HC17
      by_cases c33 : (t389.length : Int) = 12
      case neg =>
       rw [if_neg c33] at H
       have c33b0 : ((t389.length : Int) == 12) = false := beq_eq_false_iff_ne.mpr c33
       have c33b1 : ((t389.length : Int) != 12) = true := bne_iff_ne.mpr c33
       (first | rw [c33b0] | (simp only [i64_w, i32_w]; rw [c33b0]) | skip)
       have H' := Aside0.mk H
       clear H
       obtain ⟨Ao40, co40, eo40⟩ := Kd.R_slice HO391.out
       subst eo40
       go_wp2
       go_meet
       case rel => exact ⟨_, (true), (by first | rfl | (simp; done) | (simp [*]; done)), H', ⟨by have := HK1.out; have := HJ7.out; (try clear c47); (try clear c84); first | omega | exact Nat.le_refl _⟩, ⟨by (with_reducible repeat (first | apply vA | apply vN | apply vD)); exact Kd.V_mono (Kd.V_far (p := ⟨gb402, 1, none⟩) (Kd.V_far (p := ⟨gb402, 0, none⟩) (Kd.V_mono HO_6.out (fun k_ hk => (⟨hk, hk.2⟩ : _ ∧ k_ ≠ gb402))) (fun _ hk => hk.2) _) (fun _ hk => hk.2) _) (fun _ hk => ⟨hk.1.1.1.1.2, ⟨hk.1.1.1.2, ⟨hk.1.1.1.1.1.1, ⟨hk.1.1.2, ⟨hk.1.1.1.1.1.2, hk.1.2⟩⟩⟩⟩⟩)⟩, ⟨by (with_reducible repeat (first | apply rA | apply rN | apply rD)); exact Kd.R_mono (Kd.R_far (p := ⟨gb402, 1, none⟩) (Kd.R_far (p := ⟨gb402, 0, none⟩) (Kd.R_types HO391.out BK402.out (by decide)) (fun _ hk => hk.2) _) (fun _ hk => hk.2) _) (fun _ hk => ⟨hk.1.1.2, ⟨hk.1.1.1.2, hk.1.2⟩⟩)⟩, ⟨by (with_reducible repeat (first | apply rA | apply rN | apply rD)); exact Kd.R_mono (Kd.R_far (p := ⟨gb402, 1, none⟩) (Kd.R_far (p := ⟨gb402, 0, none⟩) (Kd.R_types HO394.out BK402.out (by decide)) (fun _ hk => hk.2) _) (fun _ hk => hk.2) _) (fun _ hk => ⟨hk.1.1.2, ⟨hk.1.1.1.2, hk.1.2⟩⟩)⟩, ⟨by (with_reducible repeat (first | apply vA | apply vN | apply vD)); exact Kd.V_mono (Kd.V_far (p := ⟨gb402, 1, none⟩) (Kd.V_far (p := ⟨gb402, 0, none⟩) (Kd.V_mono HO397.out (fun k_ hk => (⟨hk, hk.2⟩ : _ ∧ k_ ≠ gb402))) (fun _ hk => hk.2) _) (fun _ hk => hk.2) _) (fun _ hk => ⟨hk.1.1.2.2.1, ⟨hk.1.1.2.2.2.1, ⟨hk.1.1.2.1, ⟨hk.1.1.1, ⟨hk.1.1.2.2.2.2, hk.1.2⟩⟩⟩⟩⟩)⟩, ⟨by (with_reducible repeat (first | apply rA | apply rN | apply rD)); exact Kd.R_mono (Kd.R_far (p := ⟨gb402, 1, none⟩) (Kd.R_far (p := ⟨gb402, 0, none⟩) (Kd.R_types HO387.out BK402.out (by decide)) (fun _ hk => hk.2) _) (fun _ hk => hk.2) _) (fun _ hk => ⟨hk.1.1.1.2, ⟨hk.1.1.2, hk.1.2⟩⟩)⟩, ⟨by (with_reducible repeat (first | apply rA | apply rN | apply rD)); exact Kd.R_mono (Kd.R_far (p := ⟨gb402, 1, none⟩) (Kd.R_far (p := ⟨gb402, 0, none⟩) (Kd.R_types HO401.out BK402.out (by decide)) (fun _ hk => hk.2) _) (fun _ hk => hk.2) _) (fun _ hk => ⟨hk.1.1.2, ⟨hk.1.2, hk.1.1.1.2⟩⟩)⟩, ⟨by (with_reducible repeat (first | apply bN | apply bD | apply bA)); refine blk_far ?_ NB388_402.out _; (with_reducible repeat (first | apply bN | apply bD | apply bA)); refine blk_far ?_ NB388_402.out _; (with_reducible repeat (first | apply bN | apply bD | apply bA)); exact BK388.out⟩, ⟨by (with_reducible repeat (first | apply bN | apply bD | apply bA)); refine blk_put (cs := #[.int .i64 t398, .slice none 0 0]) ?_ 1 _ rfl; (with_reducible repeat (first | apply bN | apply bD | apply bA)); refine blk_put (cs := #[.int .i64 0, .slice none 0 0]) ?_ 0 _ rfl; (with_reducible repeat (first | apply bN | apply bD | apply bA)); exact BK402.out⟩, ⟨mH⟩⟩
      rw [if_pos c33] at H
      have c33b0 : ((t389.length : Int) == 12) = true := beq_iff_eq.mpr c33
      have c33b1 : ((t389.length : Int) != 12) = false := bne_eq_false_iff_eq.mpr c33
      clear c33
      (first | rw [c33b0] | (simp only [i64_w, i32_w]; rw [c33b0]) | skip)
      by_cases c34 : (t392.length : Int) = 12
      case neg =>
       rw [if_neg c34] at H
       have c34b0 : ((t392.length : Int) == 12) = false := beq_eq_false_iff_ne.mpr c34
       have c34b1 : ((t392.length : Int) != 12) = true := bne_iff_ne.mpr c34
       have H' := Aside0.mk H
       clear H
       obtain ⟨Ao38, co38, eo38⟩ := Kd.R_slice HO391.out
       subst eo38
       obtain ⟨Ao39, co39, eo39⟩ := Kd.R_slice HO394.out
       subst eo39
       go_wp2
       go_meet
       case rel => exact ⟨_, (true), (by first | rfl | (simp; done) | (simp [*]; done)), H', ⟨by have := HK1.out; have := HJ7.out; (try clear c47); (try clear c84); first | omega | exact Nat.le_refl _⟩, ⟨by (with_reducible repeat (first | apply vA | apply vN | apply vD)); exact Kd.V_mono (Kd.V_far (p := ⟨gb402, 1, none⟩) (Kd.V_far (p := ⟨gb402, 0, none⟩) (Kd.V_mono HO_6.out (fun k_ hk => (⟨hk, hk.2⟩ : _ ∧ k_ ≠ gb402))) (fun _ hk => hk.2) _) (fun _ hk => hk.2) _) (fun _ hk => ⟨hk.1.1.1.1.2, ⟨hk.1.1.1.2, ⟨hk.1.1.1.1.1.1, ⟨hk.1.1.2, ⟨hk.1.1.1.1.1.2, hk.1.2⟩⟩⟩⟩⟩)⟩, ⟨by (with_reducible repeat (first | apply rA | apply rN | apply rD)); exact Kd.R_mono (Kd.R_far (p := ⟨gb402, 1, none⟩) (Kd.R_far (p := ⟨gb402, 0, none⟩) (Kd.R_types HO391.out BK402.out (by decide)) (fun _ hk => hk.2) _) (fun _ hk => hk.2) _) (fun _ hk => ⟨hk.1.1.2, ⟨hk.1.1.1.2, hk.1.2⟩⟩)⟩, ⟨by (with_reducible repeat (first | apply rA | apply rN | apply rD)); exact Kd.R_mono (Kd.R_far (p := ⟨gb402, 1, none⟩) (Kd.R_far (p := ⟨gb402, 0, none⟩) (Kd.R_types HO394.out BK402.out (by decide)) (fun _ hk => hk.2) _) (fun _ hk => hk.2) _) (fun _ hk => ⟨hk.1.1.2, ⟨hk.1.1.1.2, hk.1.2⟩⟩)⟩, ⟨by (with_reducible repeat (first | apply vA | apply vN | apply vD)); exact Kd.V_mono (Kd.V_far (p := ⟨gb402, 1, none⟩) (Kd.V_far (p := ⟨gb402, 0, none⟩) (Kd.V_mono HO397.out (fun k_ hk => (⟨hk, hk.2⟩ : _ ∧ k_ ≠ gb402))) (fun _ hk => hk.2) _) (fun _ hk => hk.2) _) (fun _ hk => ⟨hk.1.1.2.2.1, ⟨hk.1.1.2.2.2.1, ⟨hk.1.1.2.1, ⟨hk.1.1.1, ⟨hk.1.1.2.2.2.2, hk.1.2⟩⟩⟩⟩⟩)⟩, ⟨by (with_reducible repeat (first | apply rA | apply rN | apply rD)); exact Kd.R_mono (Kd.R_far (p := ⟨gb402, 1, none⟩) (Kd.R_far (p := ⟨gb402, 0, none⟩) (Kd.R_types HO387.out BK402.out (by decide)) (fun _ hk => hk.2) _) (fun _ hk => hk.2) _) (fun _ hk => ⟨hk.1.1.1.2, ⟨hk.1.1.2, hk.1.2⟩⟩)⟩, ⟨by (with_reducible repeat (first | apply rA | apply rN | apply rD)); exact Kd.R_mono (Kd.R_far (p := ⟨gb402, 1, none⟩) (Kd.R_far (p := ⟨gb402, 0, none⟩) (Kd.R_types HO401.out BK402.out (by decide)) (fun _ hk => hk.2) _) (fun _ hk => hk.2) _) (fun _ hk => ⟨hk.1.1.2, ⟨hk.1.2, hk.1.1.1.2⟩⟩)⟩, ⟨by (with_reducible repeat (first | apply bN | apply bD | apply bA)); refine blk_far ?_ NB388_402.out _; (with_reducible repeat (first | apply bN | apply bD | apply bA)); refine blk_far ?_ NB388_402.out _; (with_reducible repeat (first | apply bN | apply bD | apply bA)); exact BK388.out⟩, ⟨by (with_reducible repeat (first | apply bN | apply bD | apply bA)); refine blk_put (cs := #[.int .i64 t398, .slice none 0 0]) ?_ 1 _ rfl; (with_reducible repeat (first | apply bN | apply bD | apply bA)); refine blk_put (cs := #[.int .i64 0, .slice none 0 0]) ?_ 0 _ rfl; (with_reducible repeat (first | apply bN | apply bD | apply bA)); exact BK402.out⟩, ⟨mH⟩⟩
      rw [if_pos c34] at H
      have c34b0 : ((t392.length : Int) == 12) = true := beq_iff_eq.mpr c34
      have c34b1 : ((t392.length : Int) != 12) = false := bne_eq_false_iff_eq.mpr c34
      clear c34
      have H' := Aside0.mk H
      clear H
      obtain ⟨Ao35, co35, eo35⟩ := Kd.R_slice HO391.out
      subst eo35
      obtain ⟨Ao36, co36, eo36⟩ := Kd.R_slice HO394.out
      subst eo36
      obtain ⟨Ao37, co37, eo37⟩ := Kd.V_slice HO397.out
      subst eo37
      go_wp2
      go_meet
      case rel => exact ⟨_, (((t395.length : Int) != 12)), (by first | rfl | (simp; done) | (simp [*]; done)), H', ⟨by have := HK1.out; have := HJ7.out; (try clear c47); (try clear c84); first | omega | exact Nat.le_refl _⟩, ⟨by (with_reducible repeat (first | apply vA | apply vN | apply vD)); exact Kd.V_mono (Kd.V_far (p := ⟨gb402, 1, none⟩) (Kd.V_far (p := ⟨gb402, 0, none⟩) (Kd.V_mono HO_6.out (fun k_ hk => (⟨hk, hk.2⟩ : _ ∧ k_ ≠ gb402))) (fun _ hk => hk.2) _) (fun _ hk => hk.2) _) (fun _ hk => ⟨hk.1.1.1.1.2, ⟨hk.1.1.1.2, ⟨hk.1.1.1.1.1.1, ⟨hk.1.1.2, ⟨hk.1.1.1.1.1.2, hk.1.2⟩⟩⟩⟩⟩)⟩, ⟨by (with_reducible repeat (first | apply rA | apply rN | apply rD)); exact Kd.R_mono (Kd.R_far (p := ⟨gb402, 1, none⟩) (Kd.R_far (p := ⟨gb402, 0, none⟩) (Kd.R_types HO391.out BK402.out (by decide)) (fun _ hk => hk.2) _) (fun _ hk => hk.2) _) (fun _ hk => ⟨hk.1.1.2, ⟨hk.1.1.1.2, hk.1.2⟩⟩)⟩, ⟨by (with_reducible repeat (first | apply rA | apply rN | apply rD)); exact Kd.R_mono (Kd.R_far (p := ⟨gb402, 1, none⟩) (Kd.R_far (p := ⟨gb402, 0, none⟩) (Kd.R_types HO394.out BK402.out (by decide)) (fun _ hk => hk.2) _) (fun _ hk => hk.2) _) (fun _ hk => ⟨hk.1.1.2, ⟨hk.1.1.1.2, hk.1.2⟩⟩)⟩, ⟨by (with_reducible repeat (first | apply vA | apply vN | apply vD)); exact Kd.V_mono (Kd.V_far (p := ⟨gb402, 1, none⟩) (Kd.V_far (p := ⟨gb402, 0, none⟩) (Kd.V_mono HO397.out (fun k_ hk => (⟨hk, hk.2⟩ : _ ∧ k_ ≠ gb402))) (fun _ hk => hk.2) _) (fun _ hk => hk.2) _) (fun _ hk => ⟨hk.1.1.2.2.1, ⟨hk.1.1.2.2.2.1, ⟨hk.1.1.2.1, ⟨hk.1.1.1, ⟨hk.1.1.2.2.2.2, hk.1.2⟩⟩⟩⟩⟩)⟩, ⟨by (with_reducible repeat (first | apply rA | apply rN | apply rD)); exact Kd.R_mono (Kd.R_far (p := ⟨gb402, 1, none⟩) (Kd.R_far (p := ⟨gb402, 0, none⟩) (Kd.R_types HO387.out BK402.out (by decide)) (fun _ hk => hk.2) _) (fun _ hk => hk.2) _) (fun _ hk => ⟨hk.1.1.1.2, ⟨hk.1.1.2, hk.1.2⟩⟩)⟩, ⟨by (with_reducible repeat (first | apply rA | apply rN | apply rD)); exact Kd.R_mono (Kd.R_far (p := ⟨gb402, 1, none⟩) (Kd.R_far (p := ⟨gb402, 0, none⟩) (Kd.R_types HO401.out BK402.out (by decide)) (fun _ hk => hk.2) _) (fun _ hk => hk.2) _) (fun _ hk => ⟨hk.1.1.2, ⟨hk.1.2, hk.1.1.1.2⟩⟩)⟩, ⟨by (with_reducible repeat (first | apply bN | apply bD | apply bA)); refine blk_far ?_ NB388_402.out _; (with_reducible repeat (first | apply bN | apply bD | apply bA)); refine blk_far ?_ NB388_402.out _; (with_reducible repeat (first | apply bN | apply bD | apply bA)); exact BK388.out⟩, ⟨by (with_reducible repeat (first | apply bN | apply bD | apply bA)); refine blk_put (cs := #[.int .i64 t398, .slice none 0 0]) ?_ 1 _ rfl; (with_reducible repeat (first | apply bN | apply bD | apply bA)); refine blk_put (cs := #[.int .i64 0, .slice none 0 0]) ?_ 0 _ rfl; (with_reducible repeat (first | apply bN | apply bD | apply bA)); exact BK402.out⟩, ⟨mH⟩⟩
     case rest =>
      clear HC17
      try clear c1
      try clear p2
      try clear c3
      try clear p3
      try clear q3k19
      try clear hx3
      try clear c4
      try clear p6
      try clear c7
      try clear c9
      try clear c9b0
      try clear c10
      try clear c11
      try clear c11b0
      try clear c12
      try clear c12b0
      try clear c14
      try clear c16
      try clear c18
      try clear c19
      try clear c30
      try clear c33
      try clear c33b0
      try clear c33b1
      try clear c34
      try clear c34b0
      try clear c34b1
      try clear c38
      try clear p38
      try clear q38
      try clear hx38
      try clear hcz20_0
      try clear hcz20_1
      try clear hcz20_2
      try clear hcz20_3
      try clear hcz27_0
      try clear hcz27_1
      try clear hcz27_2
      try clear hcz27_3
      try clear hcz31_0
      try clear hcz31_1
      try clear hfz20_0
      try clear hfz20_1
      try clear hfz20_2
      try clear hfz20_3
      try clear hfz27_0
      try clear hfz27_1
      try clear hfz27_2
      try clear hfz27_3
      try clear hfz31_0
      try clear hfz31_1
      try clear hx381_0
      try clear p2
      try clear p381
      try clear q381
      obtain ⟨kq, x65_16, rfl, HA, HJ16, HO_6, HO_10, HO_11, HO_12, HO_389003, HO_403001, BK388, BK402, HB⟩ := hcut
      cases kq with
      | zero => exact absurd HA.out (by simp [clinkerlaw13_ModelParts.j2])
      | succ kj16 =>
       have H := HA.out
       clear HA
       simp only [clinkerlaw13_ModelParts.j2] at H
       by_cases c41 : x65_16 = true
       case pos =>
        subst c41
        have H1 : (some false) = some r := by rw [if_pos rfl] at H; exact H
        clear H
        have H := H1
        clear H1
        exact absurd (H.trans (congrArg some hrt.out)) (by simp)
       replace c41 := Bool.eq_false_iff.mpr c41
       subst c41
       have H1 : (clinkerlaw13_ModelParts.l1 kj16 l0 a1 true x6_1 x7_1 (Int.tmod (wrap64 (a1)) 6) t389 t392 t395 0 0 t382 t383 t384 t385 t398 t399) = some r := by rw [if_neg (show ¬ (false = true) by decide)] at H; exact H
       clear H
       have H := H1
       clear H1
       have H' := Aside0.mk H
       clear H
       go_wp2
       go_loopg [14, 15] kj16 (fun kq v14 v15 w' => ∃ (x14_4 : Int) (x15_4 : Int), v14 = .int .i64 x14_4 ∧ v15 = .int .i64 x15_4 ∧ Aside0 (clinkerlaw13_ModelParts.l1 kq l0 a1 true x6_1 x7_1 (Int.tmod (wrap64 (a1)) 6) t389 t392 t395 x14_4 x15_4 t382 t383 t384 t385 t398 t399 = some r) ∧ Aside0 (kq ≤ kj16) ∧ Aside0 (Kd.V Kd.string 9 w' w.heap.size (fun k_ => some k_ ≠ (v390 : Value).ownBlock ∧ some k_ ≠ (v393 : Value).ownBlock ∧ some k_ ≠ ((.slice Ao21 t385.length co21) : Value).ownBlock ∧ some k_ ≠ ((.slice Ao32 t399.length co32) : Value).ownBlock ∧ k_ ≠ gb388 ∧ k_ ≠ gb402) (.slice Ao24 x6_1.length co24) x6_1) ∧ Aside0 (Kd.R Kd.string 9 w' w.heap.size (fun k_ => some k_ ≠ (v393 : Value).ownBlock ∧ some k_ ≠ ((.slice Ao21 t385.length co21) : Value).ownBlock ∧ some k_ ≠ ((.slice Ao32 t399.length co32) : Value).ownBlock) v390 t389) ∧ Aside0 (Kd.R Kd.string 9 w' w.heap.size (fun k_ => some k_ ≠ (v390 : Value).ownBlock ∧ some k_ ≠ ((.slice Ao21 t385.length co21) : Value).ownBlock ∧ some k_ ≠ ((.slice Ao32 t399.length co32) : Value).ownBlock) v393 t392) ∧ Aside0 (Kd.V Kd.string 9 w' w.heap.size (fun k_ => some k_ ≠ (v390 : Value).ownBlock ∧ some k_ ≠ (v393 : Value).ownBlock ∧ some k_ ≠ ((.slice Ao21 t385.length co21) : Value).ownBlock ∧ some k_ ≠ ((.slice Ao32 t399.length co32) : Value).ownBlock ∧ k_ ≠ gb388 ∧ k_ ≠ gb402) v396 t395) ∧ Aside0 (Kd.R Kd.string 9 w' w.heap.size (fun k_ => some k_ ≠ (v390 : Value).ownBlock ∧ some k_ ≠ (v393 : Value).ownBlock ∧ some k_ ≠ ((.slice Ao32 t399.length co32) : Value).ownBlock) (.slice Ao21 t385.length co21) t385) ∧ Aside0 (Kd.R Kd.string 9 w' w.heap.size (fun k_ => some k_ ≠ (v390 : Value).ownBlock ∧ some k_ ≠ (v393 : Value).ownBlock ∧ some k_ ≠ ((.slice Ao21 t385.length co21) : Value).ownBlock) (.slice Ao32 t399.length co32) t399) ∧ Aside0 (w'.heap[gb388]? = some (.cells #[.int .i64 t382, .int .i64 t383, .int .i64 t384, (.slice Ao21 t385.length co21)] 24 (0, 0))) ∧ Aside0 (w'.heap[gb402]? = some (.cells #[.int .i64 t398, (.slice Ao32 t399.length co32)] 36 (0, 0))) ∧ Aside0 (Below w.heap.size w w'))
       case atStart => exact ⟨(0), (0), (by first | rfl | (simp; done) | (simp [*]; done)), (by first | rfl | (simp; done) | (simp [*]; done)), H', ⟨Nat.le_refl _⟩, ⟨mV HO_6.out⟩, ⟨mR HO_10.out⟩, ⟨mR HO_11.out⟩, ⟨mV HO_12.out⟩, ⟨mR HO_389003.out⟩, ⟨mR HO_403001.out⟩, ⟨mB BK388.out⟩, ⟨mB BK402.out⟩, ⟨mH⟩⟩
       case round =>
        clear H'
        try clear c1
        try clear p2
        try clear c3
        try clear p3
        try clear q3k19
        try clear hx3
        try clear c4
        try clear p6
        try clear c7
        try clear c9
        try clear c9b0
        try clear c10
        try clear c11
        try clear c11b0
        try clear c12
        try clear c12b0
        try clear c14
        try clear c16
        try clear c18
        try clear c19
        try clear c30
        try clear c33
        try clear c33b0
        try clear c33b1
        try clear c34
        try clear c34b0
        try clear c34b1
        try clear c38
        try clear p38
        try clear q38
        try clear hx38
        try clear c41
        try clear hcz20_0
        try clear hcz20_1
        try clear hcz20_2
        try clear hcz20_3
        try clear hcz27_0
        try clear hcz27_1
        try clear hcz27_2
        try clear hcz27_3
        try clear hcz31_0
        try clear hcz31_1
        try clear hfz20_0
        try clear hfz20_1
        try clear hfz20_2
        try clear hfz20_3
        try clear hfz27_0
        try clear hfz27_1
        try clear hfz27_2
        try clear hfz27_3
        try clear hfz31_0
        try clear hfz31_1
        try clear hx381_0
        try clear p2
        try clear p3
        try clear p38
        try clear p381
        try clear p6
        try clear q3k19
        try clear q38
        try clear q381
        obtain ⟨x14_4, x15_4, rfl, rfl, HA, HK4, HO_6, HO_10, HO_11, HO_12, HO_389003, HO_403001, BK388, BK402, HB⟩ := hrel
        cases gk with
        | zero => exact absurd HA.out (by simp [clinkerlaw13_ModelParts.l1])
        | succ k4 =>
         have H := HA.out
         clear HA
         simp only [clinkerlaw13_ModelParts.l1] at H
         by_cases c42 : x15_4 < 12
         case neg =>
          as_aux_lemma =>
          rw [if_neg c42] at H
          have c42b0 : decide (x15_4 < 12) = false := decide_eq_false c42
          clear c42
          by_cases c107 : x14_4 > 1
          case pos =>
           rw [if_pos c107] at H
           have c107b0 : decide (1 < x14_4) = true := decide_eq_true c107
           clear c107
           obtain rfl := Option.some.inj H
           go_wp2
           go_ret
           exact ⟨by first | rfl | (simp [errW_none, errW_some] <;> rfl) | (simp [*, errW_none, errW_some] <;> rfl), by repeat (first | (with_reducible first | exact HB.out | apply lA | apply lN | apply lD | refine lS ?_ GE388.out | refine lS ?_ GE402.out) | exact HB.out)⟩
          rw [if_neg c107] at H
          have c107b0 : decide (1 < x14_4) = false := decide_eq_false c107
          clear c107
          by_cases c108 : t398 = 0
          case pos =>
           rw [if_pos c108] at H
           have c108b0 : (t398 == 0) = true := beq_iff_eq.mpr c108
           have c108b1 : (t398 != 0) = false := bne_eq_false_iff_eq.mpr c108
           clear c108
           by_cases c109 : t382 = 1
           case pos =>
            rw [if_pos c109] at H
            have c109b0 : (t382 == 1) = true := beq_iff_eq.mpr c109
            have c109b1 : (t382 != 1) = false := bne_eq_false_iff_eq.mpr c109
            clear c109
            replace H := Option.bind_eq_some_iff.mp H
            obtain ⟨t421, A1100, H⟩ := H
            replace H : (if t421 = true then (clinkerlaw13_ModelParts.l0 k4 l0 a1 true t395 (wrap64 (x7_1 + 1))) else (some false)) = some r := H
            have A110 := Aside0.mk A1100
            clear A1100
            by_cases c111 : t421 = true
            case neg =>
             replace c111 := Bool.eq_false_iff.mpr c111
             subst c111
             have H1 : (some false) = some r := by rw [if_neg (show ¬ (false = true) by decide)] at H; exact H
             clear H
             have H := H1
             clear H1
             exact absurd (H.trans (congrArg some hrt.out)) (by simp)
            subst c111
            have H1 : (clinkerlaw13_ModelParts.l0 k4 l0 a1 true t395 (wrap64 (x7_1 + 1))) = some r := by rw [if_pos rfl] at H; exact H
            clear H
            have H := H1
            clear H1
            have H' := Aside0.mk H
            clear H
            have hnb112 := NB402_388.out
            have hnc112 := NB388_402.out
            obtain ⟨hcz113_0, hcz113_1, hfz113_0, hfz113_1⟩ := kc2 BK402.out
            obtain ⟨hcz114_0, hcz114_1, hcz114_2, hcz114_3, hfz114_0, hfz114_1, hfz114_2, hfz114_3⟩ := kc4 BK388.out
            obtain ⟨Ao115, co115, eo115⟩ := Kd.V_slice HO_12.out
            subst eo115
            go_wp2_with (first | (go_at_call 13; (with_reducible refine (clinkerref13_Same.calls k4 _ _ t395 _ _ x6_1 true _ ?side1 ?side2 ?side3 ?side4 A110.out).mono ?_); (case side1 => repeat (first | exact (Kd.V_reads' HO_12.out).2.2 | (with_reducible refine Kd.C_alloc ?_ _) | (with_reducible refine Kd.C_drewN ?_ _) | (with_reducible refine Kd.C_drew ?_))); (case side2 => exact (Kd.V_reads' HO_12.out).2.1); (case side3 => repeat (first | exact (Kd.V_reads' HO_6.out).2.2 | (with_reducible refine Kd.C_alloc ?_ _) | (with_reducible refine Kd.C_drewN ?_ _) | (with_reducible refine Kd.C_drew ?_))); (case side4 => exact (Kd.V_reads' HO_6.out).2.1); rintro e w' ⟨rfl, ⟨nd, rfl⟩⟩))
            go_roundg k4
            case measure => have := HK1.out; have := HJ7.out; have := HJ16.out; have := HK4.out; (try clear c47); (try clear c84); omega
            case rel => exact ⟨(t395), (wrap64 (x7_1 + 1)), (by first | rfl | (simp; done) | (simp [*]; done)), H', ⟨by have := HK1.out; have := HJ7.out; have := HJ16.out; have := HK4.out; (try clear c47); (try clear c84); omega⟩, ⟨by (with_reducible repeat (first | apply vA | apply vN | apply vD)); exact Kd.V_mono HO_12.out (fun _ hk => trivial)⟩, ⟨mH⟩⟩
           rw [if_neg c109] at H
           have c109b0 : (t382 == 1) = false := beq_eq_false_iff_ne.mpr c109
           have c109b1 : (t382 != 1) = true := bne_iff_ne.mpr c109
           by_cases c120 : t382 = 4
           case neg =>
            rw [if_neg c120] at H
            have c120b0 : (t382 == 4) = false := beq_eq_false_iff_ne.mpr c120
            have c120b1 : (t382 != 4) = true := bne_iff_ne.mpr c120
            have H' := Aside0.mk H
            clear H
            have hnb131 := NB402_388.out
            have hnc131 := NB388_402.out
            obtain ⟨hcz132_0, hcz132_1, hfz132_0, hfz132_1⟩ := kc2 BK402.out
            obtain ⟨hcz133_0, hcz133_1, hcz133_2, hcz133_3, hfz133_0, hfz133_1, hfz133_2, hfz133_3⟩ := kc4 BK388.out
            go_wp2
            go_roundg k4
            case measure => have := HK1.out; have := HJ7.out; have := HJ16.out; have := HK4.out; (try clear c47); (try clear c84); omega
            case rel => exact ⟨(t395), (wrap64 (x7_1 + 1)), (by first | rfl | (simp; done) | (simp [*]; done)), H', ⟨by have := HK1.out; have := HJ7.out; have := HJ16.out; have := HK4.out; (try clear c47); (try clear c84); omega⟩, ⟨by (with_reducible repeat (first | apply vA | apply vN | apply vD)); exact Kd.V_mono HO_12.out (fun _ hk => trivial)⟩, ⟨mH⟩⟩
           rw [if_pos c120] at H
           have c120b0 : (t382 == 4) = true := beq_iff_eq.mpr c120
           have c120b1 : (t382 != 4) = false := bne_eq_false_iff_eq.mpr c120
           clear c120
           replace H := Option.bind_eq_some_iff.mp H
           obtain ⟨t422, A1210, H⟩ := H
           replace H : (if t422 = true then (clinkerlaw13_ModelParts.l0 k4 l0 a1 true t395 (wrap64 (x7_1 + 1))) else (some false)) = some r := H
           have A121 := Aside0.mk A1210
           clear A1210
           by_cases c122 : t422 = true
           case neg =>
            replace c122 := Bool.eq_false_iff.mpr c122
            subst c122
            have H1 : (some false) = some r := by rw [if_neg (show ¬ (false = true) by decide)] at H; exact H
            clear H
            have H := H1
            clear H1
            exact absurd (H.trans (congrArg some hrt.out)) (by simp)
           subst c122
           have H1 : (clinkerlaw13_ModelParts.l0 k4 l0 a1 true t395 (wrap64 (x7_1 + 1))) = some r := by rw [if_pos rfl] at H; exact H
           clear H
           have H := H1
           clear H1
           have H' := Aside0.mk H
           clear H
           have hnb123 := NB402_388.out
           have hnc123 := NB388_402.out
           obtain ⟨hcz124_0, hcz124_1, hfz124_0, hfz124_1⟩ := kc2 BK402.out
           obtain ⟨hcz125_0, hcz125_1, hcz125_2, hcz125_3, hfz125_0, hfz125_1, hfz125_2, hfz125_3⟩ := kc4 BK388.out
           obtain ⟨Ao126, co126, eo126⟩ := Kd.V_slice HO_12.out
           subst eo126
           go_wp2_with (first | (go_at_call 13; (with_reducible refine (clinkerref13_Same.calls k4 _ _ t395 _ _ x6_1 true _ ?side1 ?side2 ?side3 ?side4 A121.out).mono ?_); (case side1 => repeat (first | exact (Kd.V_reads' HO_12.out).2.2 | (with_reducible refine Kd.C_alloc ?_ _) | (with_reducible refine Kd.C_drewN ?_ _) | (with_reducible refine Kd.C_drew ?_))); (case side2 => exact (Kd.V_reads' HO_12.out).2.1); (case side3 => repeat (first | exact (Kd.V_reads' HO_6.out).2.2 | (with_reducible refine Kd.C_alloc ?_ _) | (with_reducible refine Kd.C_drewN ?_ _) | (with_reducible refine Kd.C_drew ?_))); (case side4 => exact (Kd.V_reads' HO_6.out).2.1); rintro e w' ⟨rfl, ⟨nd, rfl⟩⟩))
           go_roundg k4
           case measure => have := HK1.out; have := HJ7.out; have := HJ16.out; have := HK4.out; (try clear c47); (try clear c84); omega
           case rel => exact ⟨(t395), (wrap64 (x7_1 + 1)), (by first | rfl | (simp; done) | (simp [*]; done)), H', ⟨by have := HK1.out; have := HJ7.out; have := HJ16.out; have := HK4.out; (try clear c47); (try clear c84); omega⟩, ⟨by (with_reducible repeat (first | apply vA | apply vN | apply vD)); exact Kd.V_mono HO_12.out (fun _ hk => trivial)⟩, ⟨mH⟩⟩
          rw [if_neg c108] at H
          have c108b0 : (t398 == 0) = false := beq_eq_false_iff_ne.mpr c108
          have c108b1 : (t398 != 0) = true := bne_iff_ne.mpr c108
          replace H := Option.bind_eq_some_iff.mp H
          obtain ⟨t423, A1340, H⟩ := H
          replace H : (if t423 = true then (if t382 = 1 then ((clinkerref13_Same.f k4 t395 x6_1).bind fun t424 => (if t424 = true then (clinkerlaw13_ModelParts.l0 k4 l0 a1 true t395 (wrap64 (x7_1 + 1))) else (some false))) else (if t382 = 4 then ((clinkerref13_Same.f k4 t395 x6_1).bind fun t425 => (if t425 = true then (clinkerlaw13_ModelParts.l0 k4 l0 a1 true t395 (wrap64 (x7_1 + 1))) else (some false))) else (clinkerlaw13_ModelParts.l0 k4 l0 a1 true t395 (wrap64 (x7_1 + 1))))) else (some false)) = some r := H
          have A134 := Aside0.mk A1340
          clear A1340
          by_cases c135 : t423 = true
          case neg =>
           replace c135 := Bool.eq_false_iff.mpr c135
           subst c135
           have H1 : (some false) = some r := by rw [if_neg (show ¬ (false = true) by decide)] at H; exact H
           clear H
           have H := H1
           clear H1
           exact absurd (H.trans (congrArg some hrt.out)) (by simp)
          subst c135
          have H1 : (if t382 = 1 then ((clinkerref13_Same.f k4 t395 x6_1).bind fun t424 => (if t424 = true then (clinkerlaw13_ModelParts.l0 k4 l0 a1 true t395 (wrap64 (x7_1 + 1))) else (some false))) else (if t382 = 4 then ((clinkerref13_Same.f k4 t395 x6_1).bind fun t425 => (if t425 = true then (clinkerlaw13_ModelParts.l0 k4 l0 a1 true t395 (wrap64 (x7_1 + 1))) else (some false))) else (clinkerlaw13_ModelParts.l0 k4 l0 a1 true t395 (wrap64 (x7_1 + 1))))) = some r := by rw [if_pos rfl] at H; exact H
          clear H
          have H := H1
          clear H1
          by_cases c136 : t382 = 1
          case pos =>
           rw [if_pos c136] at H
           have c136b0 : (t382 == 1) = true := beq_iff_eq.mpr c136
           have c136b1 : (t382 != 1) = false := bne_eq_false_iff_eq.mpr c136
           clear c136
           replace H := Option.bind_eq_some_iff.mp H
           obtain ⟨t424, A1370, H⟩ := H
           replace H : (if t424 = true then (clinkerlaw13_ModelParts.l0 k4 l0 a1 true t395 (wrap64 (x7_1 + 1))) else (some false)) = some r := H
           have A137 := Aside0.mk A1370
           clear A1370
           by_cases c138 : t424 = true
           case neg =>
            replace c138 := Bool.eq_false_iff.mpr c138
            subst c138
            have H1 : (some false) = some r := by rw [if_neg (show ¬ (false = true) by decide)] at H; exact H
            clear H
            have H := H1
            clear H1
            exact absurd (H.trans (congrArg some hrt.out)) (by simp)
           subst c138
           have H1 : (clinkerlaw13_ModelParts.l0 k4 l0 a1 true t395 (wrap64 (x7_1 + 1))) = some r := by rw [if_pos rfl] at H; exact H
           clear H
           have H := H1
           clear H1
           have H' := Aside0.mk H
           clear H
           have hnb139 := NB402_388.out
           have hnc139 := NB388_402.out
           obtain ⟨hcz140_0, hcz140_1, hfz140_0, hfz140_1⟩ := kc2 BK402.out
           obtain ⟨Ao141, co141, eo141⟩ := Kd.V_slice HO_12.out
           subst eo141
           go_wp2_with (first | (go_at_call 13; (with_reducible refine (clinkerref13_Same.calls k4 _ _ t395 _ _ x6_1 true _ ?side1 ?side2 ?side3 ?side4 A134.out).mono ?_); (case side1 => repeat (first | exact (Kd.V_reads' HO_12.out).2.2 | (with_reducible refine Kd.C_alloc ?_ _) | (with_reducible refine Kd.C_drewN ?_ _) | (with_reducible refine Kd.C_drew ?_))); (case side2 => exact (Kd.V_reads' HO_12.out).2.1); (case side3 => repeat (first | exact (Kd.V_reads' HO_6.out).2.2 | (with_reducible refine Kd.C_alloc ?_ _) | (with_reducible refine Kd.C_drewN ?_ _) | (with_reducible refine Kd.C_drew ?_))); (case side4 => exact (Kd.V_reads' HO_6.out).2.1); rintro e w' ⟨rfl, ⟨nd, rfl⟩⟩; obtain ⟨hcz142_0, hcz142_1, hcz142_2, hcz142_3, hfz142_0, hfz142_1, hfz142_2, hfz142_3⟩ := kc4 BK388.out) | (go_at_call 13; (with_reducible refine (clinkerref13_Same.calls k4 _ _ t395 _ _ x6_1 true _ ?side1 ?side2 ?side3 ?side4 A137.out).mono ?_); (case side1 => repeat (first | exact (Kd.V_reads' HO_12.out).2.2 | (with_reducible refine Kd.C_alloc ?_ _) | (with_reducible refine Kd.C_drewN ?_ _) | (with_reducible refine Kd.C_drew ?_))); (case side2 => exact (Kd.V_reads' HO_12.out).2.1); (case side3 => repeat (first | exact (Kd.V_reads' HO_6.out).2.2 | (with_reducible refine Kd.C_alloc ?_ _) | (with_reducible refine Kd.C_drewN ?_ _) | (with_reducible refine Kd.C_drew ?_))); (case side4 => exact (Kd.V_reads' HO_6.out).2.1); rintro e w' ⟨rfl, ⟨nd, rfl⟩⟩))
           go_roundg k4
           case measure => have := HK1.out; have := HJ7.out; have := HJ16.out; have := HK4.out; (try clear c47); (try clear c84); omega
           case rel => exact ⟨(t395), (wrap64 (x7_1 + 1)), (by first | rfl | (simp; done) | (simp [*]; done)), H', ⟨by have := HK1.out; have := HJ7.out; have := HJ16.out; have := HK4.out; (try clear c47); (try clear c84); omega⟩, ⟨by (with_reducible repeat (first | apply vA | apply vN | apply vD)); exact Kd.V_mono HO_12.out (fun _ hk => trivial)⟩, ⟨mH⟩⟩
          rw [if_neg c136] at H
          have c136b0 : (t382 == 1) = false := beq_eq_false_iff_ne.mpr c136
          have c136b1 : (t382 != 1) = true := bne_iff_ne.mpr c136
          by_cases c147 : t382 = 4
          case neg =>
           rw [if_neg c147] at H
           have c147b0 : (t382 == 4) = false := beq_eq_false_iff_ne.mpr c147
           have c147b1 : (t382 != 4) = true := bne_iff_ne.mpr c147
           have H' := Aside0.mk H
           clear H
           have hnb158 := NB402_388.out
           have hnc158 := NB388_402.out
           obtain ⟨hcz159_0, hcz159_1, hfz159_0, hfz159_1⟩ := kc2 BK402.out
           obtain ⟨Ao160, co160, eo160⟩ := Kd.V_slice HO_12.out
           subst eo160
           go_wp2_with (first | (go_at_call 13; (with_reducible refine (clinkerref13_Same.calls k4 _ _ t395 _ _ x6_1 true _ ?side1 ?side2 ?side3 ?side4 A134.out).mono ?_); (case side1 => repeat (first | exact (Kd.V_reads' HO_12.out).2.2 | (with_reducible refine Kd.C_alloc ?_ _) | (with_reducible refine Kd.C_drewN ?_ _) | (with_reducible refine Kd.C_drew ?_))); (case side2 => exact (Kd.V_reads' HO_12.out).2.1); (case side3 => repeat (first | exact (Kd.V_reads' HO_6.out).2.2 | (with_reducible refine Kd.C_alloc ?_ _) | (with_reducible refine Kd.C_drewN ?_ _) | (with_reducible refine Kd.C_drew ?_))); (case side4 => exact (Kd.V_reads' HO_6.out).2.1); rintro e w' ⟨rfl, ⟨nd, rfl⟩⟩; obtain ⟨hcz161_0, hcz161_1, hcz161_2, hcz161_3, hfz161_0, hfz161_1, hfz161_2, hfz161_3⟩ := kc4 BK388.out))
           go_roundg k4
           case measure => have := HK1.out; have := HJ7.out; have := HJ16.out; have := HK4.out; (try clear c47); (try clear c84); omega
           case rel => exact ⟨(t395), (wrap64 (x7_1 + 1)), (by first | rfl | (simp; done) | (simp [*]; done)), H', ⟨by have := HK1.out; have := HJ7.out; have := HJ16.out; have := HK4.out; (try clear c47); (try clear c84); omega⟩, ⟨by (with_reducible repeat (first | apply vA | apply vN | apply vD)); exact Kd.V_mono HO_12.out (fun _ hk => trivial)⟩, ⟨mH⟩⟩
          rw [if_pos c147] at H
          have c147b0 : (t382 == 4) = true := beq_iff_eq.mpr c147
          have c147b1 : (t382 != 4) = false := bne_eq_false_iff_eq.mpr c147
          clear c147
          replace H := Option.bind_eq_some_iff.mp H
          obtain ⟨t425, A1480, H⟩ := H
          replace H : (if t425 = true then (clinkerlaw13_ModelParts.l0 k4 l0 a1 true t395 (wrap64 (x7_1 + 1))) else (some false)) = some r := H
          have A148 := Aside0.mk A1480
          clear A1480
          by_cases c149 : t425 = true
          case neg =>
           replace c149 := Bool.eq_false_iff.mpr c149
           subst c149
           have H1 : (some false) = some r := by rw [if_neg (show ¬ (false = true) by decide)] at H; exact H
           clear H
           have H := H1
           clear H1
           exact absurd (H.trans (congrArg some hrt.out)) (by simp)
          subst c149
          have H1 : (clinkerlaw13_ModelParts.l0 k4 l0 a1 true t395 (wrap64 (x7_1 + 1))) = some r := by rw [if_pos rfl] at H; exact H
          clear H
          have H := H1
          clear H1
          have H' := Aside0.mk H
          clear H
          have hnb150 := NB402_388.out
          have hnc150 := NB388_402.out
          obtain ⟨hcz151_0, hcz151_1, hfz151_0, hfz151_1⟩ := kc2 BK402.out
          obtain ⟨Ao152, co152, eo152⟩ := Kd.V_slice HO_12.out
          subst eo152
          go_wp2_with (first | (go_at_call 13; (with_reducible refine (clinkerref13_Same.calls k4 _ _ t395 _ _ x6_1 true _ ?side1 ?side2 ?side3 ?side4 A134.out).mono ?_); (case side1 => repeat (first | exact (Kd.V_reads' HO_12.out).2.2 | (with_reducible refine Kd.C_alloc ?_ _) | (with_reducible refine Kd.C_drewN ?_ _) | (with_reducible refine Kd.C_drew ?_))); (case side2 => exact (Kd.V_reads' HO_12.out).2.1); (case side3 => repeat (first | exact (Kd.V_reads' HO_6.out).2.2 | (with_reducible refine Kd.C_alloc ?_ _) | (with_reducible refine Kd.C_drewN ?_ _) | (with_reducible refine Kd.C_drew ?_))); (case side4 => exact (Kd.V_reads' HO_6.out).2.1); rintro e w' ⟨rfl, ⟨nd, rfl⟩⟩; obtain ⟨hcz153_0, hcz153_1, hcz153_2, hcz153_3, hfz153_0, hfz153_1, hfz153_2, hfz153_3⟩ := kc4 BK388.out) | (go_at_call 13; (with_reducible refine (clinkerref13_Same.calls k4 _ _ t395 _ _ x6_1 true _ ?side1 ?side2 ?side3 ?side4 A148.out).mono ?_); (case side1 => repeat (first | exact (Kd.V_reads' HO_12.out).2.2 | (with_reducible refine Kd.C_alloc ?_ _) | (with_reducible refine Kd.C_drewN ?_ _) | (with_reducible refine Kd.C_drew ?_))); (case side2 => exact (Kd.V_reads' HO_12.out).2.1); (case side3 => repeat (first | exact (Kd.V_reads' HO_6.out).2.2 | (with_reducible refine Kd.C_alloc ?_ _) | (with_reducible refine Kd.C_drewN ?_ _) | (with_reducible refine Kd.C_drew ?_))); (case side4 => exact (Kd.V_reads' HO_6.out).2.1); rintro e w' ⟨rfl, ⟨nd, rfl⟩⟩))
          go_roundg k4
          case measure => have := HK1.out; have := HJ7.out; have := HJ16.out; have := HK4.out; (try clear c47); (try clear c84); omega
          case rel => exact ⟨(t395), (wrap64 (x7_1 + 1)), (by first | rfl | (simp; done) | (simp [*]; done)), H', ⟨by have := HK1.out; have := HJ7.out; have := HJ16.out; have := HK4.out; (try clear c47); (try clear c84); omega⟩, ⟨by (with_reducible repeat (first | apply vA | apply vN | apply vD)); exact Kd.V_mono HO_12.out (fun _ hk => trivial)⟩, ⟨mH⟩⟩
         rw [if_pos c42] at H
         have c42b0 : decide (x15_4 < 12) = true := decide_eq_true c42
         clear c42
         by_cases c43 : 0 ≤ x15_4
         case neg =>
          rw [if_neg c43] at H
          exact absurd H (by simp)
         rw [if_pos c43] at H
         have c43b0 : decide (0 ≤ x15_4) = true := decide_eq_true c43
         clear c43
         by_cases c44 : x15_4 < (t389.length : Int)
         case neg =>
          rw [if_neg c44] at H
          exact absurd H (by simp)
         rw [if_pos c44] at H
         have c44b0 : decide (x15_4 < (t389.length : Int)) = true := decide_eq_true c44
         clear c44
         by_cases c45 : x15_4 < (t392.length : Int)
         case neg =>
          rw [if_neg c45] at H
          exact absurd H (by simp)
         rw [if_pos c45] at H
         have c45b0 : decide (x15_4 < (t392.length : Int)) = true := decide_eq_true c45
         clear c45
         by_cases c46 : (rdOf ByteArray.empty t389 x15_4).toList = (rdOf ByteArray.empty t392 x15_4).toList
         case neg =>
          as_aux_lemma =>
          rw [if_neg c46] at H
          have c46b0 : ((rdOf ByteArray.empty t389 x15_4).toList == (rdOf ByteArray.empty t392 x15_4).toList) = false := beq_eq_false_iff_ne.mpr c46
          have c46b1 : ((rdOf ByteArray.empty t389 x15_4).toList != (rdOf ByteArray.empty t392 x15_4).toList) = true := bne_iff_ne.mpr c46
          by_cases c84 : x15_4 = (wrap64 (t383 + (Int.tmod (wrap64 (a1)) 6)))
          case neg =>
           rw [if_neg c84] at H
           have c84b0 : (x15_4 == (wrap64 (t383 + (Int.tmod (wrap64 (a1)) 6)))) = false := beq_eq_false_iff_ne.mpr c84
           have c84b1 : (x15_4 != (wrap64 (t383 + (Int.tmod (wrap64 (a1)) 6)))) = true := bne_iff_ne.mpr c84
           exact absurd (H.trans (congrArg some hrt.out)) (by simp)
          rw [if_pos c84] at H
          have c84b0 : (x15_4 == (wrap64 (t383 + (Int.tmod (wrap64 (a1)) 6)))) = true := beq_iff_eq.mpr c84
          have c84b1 : (x15_4 != (wrap64 (t383 + (Int.tmod (wrap64 (a1)) 6)))) = false := bne_eq_false_iff_eq.mpr c84
          clear c84
          by_cases c85 : x15_4 < (x6_1.length : Int)
          case neg =>
           rw [if_neg c85] at H
           exact absurd H (by simp)
          rw [if_pos c85] at H
          have c85b0 : decide (x15_4 < (x6_1.length : Int)) = true := decide_eq_true c85
          clear c85
          by_cases c86 : (rdOf ByteArray.empty t389 x15_4).toList = (rdOf ByteArray.empty x6_1 x15_4).toList
          case pos =>
           rw [if_pos c86] at H
           have c86b0 : ((rdOf ByteArray.empty t389 x15_4).toList == (rdOf ByteArray.empty x6_1 x15_4).toList) = true := beq_iff_eq.mpr c86
           have c86b1 : ((rdOf ByteArray.empty t389 x15_4).toList != (rdOf ByteArray.empty x6_1 x15_4).toList) = false := bne_eq_false_iff_eq.mpr c86
           clear c86
           have H' := Aside0.mk H
           clear H
           try go_wp2
           replace HO_6 := Aside0.mk (vD HO_6.out)
           replace HO_10 := Aside0.mk (Kd.R_drew HO_10.out)
           replace HO_11 := Aside0.mk (Kd.R_drew HO_11.out)
           replace HO_12 := Aside0.mk (vD HO_12.out)
           replace HO_389003 := Aside0.mk (Kd.R_drew HO_389003.out)
           replace HO_403001 := Aside0.mk (Kd.R_drew HO_403001.out)
           replace BK388 := Aside0.mk (bD BK388.out)
           replace BK402 := Aside0.mk (bD BK402.out)
           replace HB := Aside0.mk (lD HB.out)
           obtain ⟨Ao88, co88, eo88⟩ := Kd.R_slice HO_10.out
           (first | subst eo88 | (injection eo88 with f1_ f2_ f3_; have f4_ := f1_.symm; have f5_ := f3_.symm; clear f1_ f2_ f3_; subst f4_; subst f5_))
           have p403 : 0 ≤ (x15_4 : Int) := of_decide_eq_true (by first | (with_reducible assumption) | assumption)
           have q403 : x15_4 < (t389.length : Int) := of_decide_eq_true (by first | (with_reducible assumption) | assumption)
           obtain ⟨ad403, e403, hx403_0⟩ := Kd.at_string (Kd.R_reads' HO_10.out).2.2 x15_4 p403 q403
           cases e403
           replace p403 := eq_true p403
           replace q403 := eq_true q403
           obtain ⟨Ao89, co89, eo89⟩ := Kd.R_slice HO_11.out
           (first | subst eo89 | (injection eo89 with f1_ f2_ f3_; have f4_ := f1_.symm; have f5_ := f3_.symm; clear f1_ f2_ f3_; subst f4_; subst f5_))
           have p404 : 0 ≤ (x15_4 : Int) := of_decide_eq_true (by first | (with_reducible assumption) | assumption)
           have q404 : x15_4 < (t392.length : Int) := of_decide_eq_true (by first | (with_reducible assumption) | assumption)
           obtain ⟨ad404, e404, hx404_0⟩ := Kd.at_string (Kd.R_reads' HO_11.out).2.2 x15_4 p404 q404
           cases e404
           replace p404 := eq_true p404
           replace q404 := eq_true q404
           refine start_ (n := 9) (S := fun w' => w'.cell? (ad403.add (x15_4).toNat) = some (.string (rdOf ByteArray.empty t389 x15_4)) ∧ w'.cell? (ad404.add (x15_4).toNat) = some (.string (rdOf ByteArray.empty t392 x15_4))) (ds := []) q3k19 (by kernel_rfl) rfl rfl ⟨hx403_0, hx404_0⟩ (fun hHeld => ?_); refine with_tabW clinkerlaw13_ModelParts.tab18 clinkerlaw13_ModelParts.bits18 (fun HT_ HW_ => ?_)
           generalize wr.drew = w87 at HO_6 HO_10 HO_11 HO_12 HO_389003 HO_403001 BK388 BK402 HB hx403_0 hx404_0 hHeld ⊢
           refine pa 0 (some 70) ?_
           refine pa 1 (some 71) ?_
           refine pa 2 (some 72) ?_
           refine pa 4 (some 74) ?_
           refine pa 5 (some 75) ?_
           refine pa 6 (some 76) ?_
           refine ta 3 (some 73) hHeld ?_
           refine ta 7 (some 77) hHeld ?_
           refine pa 8 (some 78) ?_
           refine done_ (done_of HT_.out (by kernel_rfl)) ?_
           try go_wp2
           replace HO_6 := Aside0.mk (vD HO_6.out)
           replace HO_10 := Aside0.mk (Kd.R_drew HO_10.out)
           replace HO_11 := Aside0.mk (Kd.R_drew HO_11.out)
           replace HO_12 := Aside0.mk (vD HO_12.out)
           replace HO_389003 := Aside0.mk (Kd.R_drew HO_389003.out)
           replace HO_403001 := Aside0.mk (Kd.R_drew HO_403001.out)
           replace BK388 := Aside0.mk (bD BK388.out)
           replace BK402 := Aside0.mk (bD BK402.out)
           replace HB := Aside0.mk (lD HB.out)
           have p415 : 0 ≤ (x15_4 : Int) := of_decide_eq_true (by first | (with_reducible assumption) | assumption)
           have q415 : x15_4 < (t389.length : Int) := of_decide_eq_true (by first | (with_reducible assumption) | assumption)
           obtain ⟨ad415, e415, hx415_0⟩ := Kd.at_string (Kd.R_reads' HO_10.out).2.2 x15_4 p415 q415
           obtain rfl : ad403 = ad415 := (by injection e415)
           replace p415 := eq_true p415
           replace q415 := eq_true q415
           have p416 : 0 ≤ (x15_4 : Int) := of_decide_eq_true (by first | (with_reducible assumption) | assumption)
           have q416 : x15_4 < (x6_1.length : Int) := of_decide_eq_true (by first | (with_reducible assumption) | assumption)
           obtain ⟨ad416, e416, hx416_0⟩ := Kd.at_string (Kd.V_reads' HO_6.out).2.2 x15_4 p416 q416
           cases e416
           replace p416 := eq_true p416
           replace q416 := eq_true q416
           refine start_ (n := 39) (S := fun w' => w'.cell? ⟨gb388, 0, none⟩ = some (.int .i64 t382) ∧ w'.cell? ⟨gb388, 1, none⟩ = some (.int .i64 t383) ∧ w'.cell? ⟨gb388, 2, none⟩ = some (.int .i64 t384) ∧ w'.cell? ⟨gb388, 3, none⟩ = some (.slice Ao21 t385.length co21) ∧ w'.cell? (ad403.add (x15_4).toNat) = some (.string (rdOf ByteArray.empty t389 x15_4)) ∧ w'.cell? (ad416.add (x15_4).toNat) = some (.string (rdOf ByteArray.empty x6_1 x15_4))) (ds := []) q4k19 (by kernel_rfl) rfl rfl ⟨(blk_cell BK388.out 0).trans rfl, (blk_cell BK388.out 1).trans rfl, (blk_cell BK388.out 2).trans rfl, (blk_cell BK388.out 3).trans rfl, hx415_0, hx416_0⟩ (fun hHeld => ?_); refine with_tabW clinkerlaw13_ModelParts.tab20 clinkerlaw13_ModelParts.bits20 (fun HT_ HW_ => ?_)
           generalize w87.drew = w90 at HO_6 HO_10 HO_11 HO_12 HO_389003 HO_403001 BK388 BK402 HB hx415_0 hx416_0 hHeld ⊢
           refine pa 0 (some 81) ?_
           refine pa 1 (some 82) ?_
           refine pa 3 (some 84) ?_
           refine ta 2 (some 83) hHeld ?_
           refine pa 4 (some 85) ?_
           refine pa 5 (some 86) ?_
           refine pa 6 (some 87) ?_
           refine pc 7 (some 88) ?_
           refine pc 8 (some 89) ?_
           refine pc 9 (some 90) ?_
           refine pc 10 (some 91) ?_
           refine pc 11 (some 92) ?_
           refine pc 12 (some 93) ?_
           refine pc 13 (some 94) ?_
           refine pc 14 (some 95) ?_
           refine pc 15 (some 96) ?_
           refine pa 16 (some 97) ?_
           refine pa 17 (some 98) ?_
           refine pa 18 (some 99) ?_
           refine pa 19 (some 100) ?_
           refine pa 20 (some 101) ?_
           refine pa 22 (some 103) ?_
           refine pa 23 (some 104) ?_
           refine pa 24 (some 105) ?_
           refine ta 21 (some 102) hHeld ?_
           refine ta 25 (some 106) hHeld ?_
           refine pa 26 (some 107) ?_
           refine pa 27 (some 108) ?_
           refine pc 28 (some 109) ?_
           refine pc 29 (some 110) ?_
           refine pc 30 (some 111) ?_
           refine pc 31 (some 112) ?_
           refine pc 32 (some 113) ?_
           refine pc 33 (some 114) ?_
           refine pc 34 (some 115) ?_
           refine pc 35 (some 116) ?_
           refine pc 36 (some 117) ?_
           refine pa 37 (some 118) ?_
           refine pa 38 (some 119) ?_
           refine done_ (done_of HT_.out (by kernel_rfl)) ?_
           try go_wp2
           go_roundg k4
           case measure => have := HK1.out; have := HJ7.out; have := HJ16.out; have := HK4.out; (try clear c47); (try clear c84); omega
           case rel => exact ⟨(wrap64 (x14_4 + 1)), (wrap64 (x15_4 + 1)), (by first | rfl | (simp; done) | (simp [*]; done)), (by first | rfl | (simp; done) | (simp [*]; done)), H', ⟨by have := HK1.out; have := HJ7.out; have := HJ16.out; have := HK4.out; (try clear c47); (try clear c84); omega⟩, ⟨mV HO_6.out⟩, ⟨mR HO_10.out⟩, ⟨mR HO_11.out⟩, ⟨mV HO_12.out⟩, ⟨mR HO_389003.out⟩, ⟨mR HO_403001.out⟩, ⟨mB BK388.out⟩, ⟨mB BK402.out⟩, ⟨mH⟩⟩
          rw [if_neg c86] at H
          have c86b0 : ((rdOf ByteArray.empty t389 x15_4).toList == (rdOf ByteArray.empty x6_1 x15_4).toList) = false := beq_eq_false_iff_ne.mpr c86
          have c86b1 : ((rdOf ByteArray.empty t389 x15_4).toList != (rdOf ByteArray.empty x6_1 x15_4).toList) = true := bne_iff_ne.mpr c86
          by_cases c91 : x15_4 < (t395.length : Int)
          case neg =>
           rw [if_neg c91] at H
           exact absurd H (by simp)
          rw [if_pos c91] at H
          have c91b0 : decide (x15_4 < (t395.length : Int)) = true := decide_eq_true c91
          clear c91
          by_cases c92 : (rdOf ByteArray.empty t389 x15_4).toList = (rdOf ByteArray.empty t395 x15_4).toList
          case neg =>
           rw [if_neg c92] at H
           have c92b0 : ((rdOf ByteArray.empty t389 x15_4).toList == (rdOf ByteArray.empty t395 x15_4).toList) = false := beq_eq_false_iff_ne.mpr c92
           have c92b1 : ((rdOf ByteArray.empty t389 x15_4).toList != (rdOf ByteArray.empty t395 x15_4).toList) = true := bne_iff_ne.mpr c92
           exact absurd (H.trans (congrArg some hrt.out)) (by simp)
          rw [if_pos c92] at H
          have c92b0 : ((rdOf ByteArray.empty t389 x15_4).toList == (rdOf ByteArray.empty t395 x15_4).toList) = true := beq_iff_eq.mpr c92
          have c92b1 : ((rdOf ByteArray.empty t389 x15_4).toList != (rdOf ByteArray.empty t395 x15_4).toList) = false := bne_eq_false_iff_eq.mpr c92
          clear c92
          have H' := Aside0.mk H
          clear H
          try go_wp2
          replace HO_6 := Aside0.mk (vD HO_6.out)
          replace HO_10 := Aside0.mk (Kd.R_drew HO_10.out)
          replace HO_11 := Aside0.mk (Kd.R_drew HO_11.out)
          replace HO_12 := Aside0.mk (vD HO_12.out)
          replace HO_389003 := Aside0.mk (Kd.R_drew HO_389003.out)
          replace HO_403001 := Aside0.mk (Kd.R_drew HO_403001.out)
          replace BK388 := Aside0.mk (bD BK388.out)
          replace BK402 := Aside0.mk (bD BK402.out)
          replace HB := Aside0.mk (lD HB.out)
          obtain ⟨Ao94, co94, eo94⟩ := Kd.R_slice HO_10.out
          (first | subst eo94 | (injection eo94 with f1_ f2_ f3_; have f4_ := f1_.symm; have f5_ := f3_.symm; clear f1_ f2_ f3_; subst f4_; subst f5_))
          have p403 : 0 ≤ (x15_4 : Int) := of_decide_eq_true (by first | (with_reducible assumption) | assumption)
          have q403 : x15_4 < (t389.length : Int) := of_decide_eq_true (by first | (with_reducible assumption) | assumption)
          obtain ⟨ad403, e403, hx403_0⟩ := Kd.at_string (Kd.R_reads' HO_10.out).2.2 x15_4 p403 q403
          cases e403
          replace p403 := eq_true p403
          replace q403 := eq_true q403
          obtain ⟨Ao95, co95, eo95⟩ := Kd.R_slice HO_11.out
          (first | subst eo95 | (injection eo95 with f1_ f2_ f3_; have f4_ := f1_.symm; have f5_ := f3_.symm; clear f1_ f2_ f3_; subst f4_; subst f5_))
          have p404 : 0 ≤ (x15_4 : Int) := of_decide_eq_true (by first | (with_reducible assumption) | assumption)
          have q404 : x15_4 < (t392.length : Int) := of_decide_eq_true (by first | (with_reducible assumption) | assumption)
          obtain ⟨ad404, e404, hx404_0⟩ := Kd.at_string (Kd.R_reads' HO_11.out).2.2 x15_4 p404 q404
          cases e404
          replace p404 := eq_true p404
          replace q404 := eq_true q404
          refine start_ (n := 9) (S := fun w' => w'.cell? (ad403.add (x15_4).toNat) = some (.string (rdOf ByteArray.empty t389 x15_4)) ∧ w'.cell? (ad404.add (x15_4).toNat) = some (.string (rdOf ByteArray.empty t392 x15_4))) (ds := []) q3k19 (by kernel_rfl) rfl rfl ⟨hx403_0, hx404_0⟩ (fun hHeld => ?_); refine with_tabW clinkerlaw13_ModelParts.tab18 clinkerlaw13_ModelParts.bits18 (fun HT_ HW_ => ?_)
          generalize wr.drew = w93 at HO_6 HO_10 HO_11 HO_12 HO_389003 HO_403001 BK388 BK402 HB hx403_0 hx404_0 hHeld ⊢
          refine pa 0 (some 70) ?_
          refine pa 1 (some 71) ?_
          refine pa 2 (some 72) ?_
          refine pa 4 (some 74) ?_
          refine pa 5 (some 75) ?_
          refine pa 6 (some 76) ?_
          refine ta 3 (some 73) hHeld ?_
          refine ta 7 (some 77) hHeld ?_
          refine pa 8 (some 78) ?_
          refine done_ (done_of HT_.out (by kernel_rfl)) ?_
          try go_wp2
          replace HO_6 := Aside0.mk (vD HO_6.out)
          replace HO_10 := Aside0.mk (Kd.R_drew HO_10.out)
          replace HO_11 := Aside0.mk (Kd.R_drew HO_11.out)
          replace HO_12 := Aside0.mk (vD HO_12.out)
          replace HO_389003 := Aside0.mk (Kd.R_drew HO_389003.out)
          replace HO_403001 := Aside0.mk (Kd.R_drew HO_403001.out)
          replace BK388 := Aside0.mk (bD BK388.out)
          replace BK402 := Aside0.mk (bD BK402.out)
          replace HB := Aside0.mk (lD HB.out)
          have p415 : 0 ≤ (x15_4 : Int) := of_decide_eq_true (by first | (with_reducible assumption) | assumption)
          have q415 : x15_4 < (t389.length : Int) := of_decide_eq_true (by first | (with_reducible assumption) | assumption)
          obtain ⟨ad415, e415, hx415_0⟩ := Kd.at_string (Kd.R_reads' HO_10.out).2.2 x15_4 p415 q415
          obtain rfl : ad403 = ad415 := (by injection e415)
          replace p415 := eq_true p415
          replace q415 := eq_true q415
          have p416 : 0 ≤ (x15_4 : Int) := of_decide_eq_true (by first | (with_reducible assumption) | assumption)
          have q416 : x15_4 < (x6_1.length : Int) := of_decide_eq_true (by first | (with_reducible assumption) | assumption)
          obtain ⟨ad416, e416, hx416_0⟩ := Kd.at_string (Kd.V_reads' HO_6.out).2.2 x15_4 p416 q416
          cases e416
          replace p416 := eq_true p416
          replace q416 := eq_true q416
          have p417 : 0 ≤ (x15_4 : Int) := of_decide_eq_true (by first | (with_reducible assumption) | assumption)
          have q417 : x15_4 < (t389.length : Int) := of_decide_eq_true (by first | (with_reducible assumption) | assumption)
          obtain ⟨ad417, e417, hx417_0⟩ := Kd.at_string (Kd.R_reads' HO_10.out).2.2 x15_4 p417 q417
          obtain rfl : ad403 = ad417 := (by injection e417)
          replace p417 := eq_true p417
          replace q417 := eq_true q417
          obtain ⟨Ao97, co97, eo97⟩ := Kd.V_slice HO_12.out
          (first | subst eo97 | (injection eo97 with f1_ f2_ f3_; have f4_ := f1_.symm; have f5_ := f3_.symm; clear f1_ f2_ f3_; subst f4_; subst f5_))
          have p418 : 0 ≤ (x15_4 : Int) := of_decide_eq_true (by first | (with_reducible assumption) | assumption)
          have q418 : x15_4 < (t395.length : Int) := of_decide_eq_true (by first | (with_reducible assumption) | assumption)
          obtain ⟨ad418, e418, hx418_0⟩ := Kd.at_string (Kd.V_reads' HO_12.out).2.2 x15_4 p418 q418
          cases e418
          replace p418 := eq_true p418
          replace q418 := eq_true q418
          refine start_ (n := 39) (S := fun w' => w'.cell? ⟨gb388, 0, none⟩ = some (.int .i64 t382) ∧ w'.cell? ⟨gb388, 1, none⟩ = some (.int .i64 t383) ∧ w'.cell? ⟨gb388, 2, none⟩ = some (.int .i64 t384) ∧ w'.cell? ⟨gb388, 3, none⟩ = some (.slice Ao21 t385.length co21) ∧ w'.cell? (ad403.add (x15_4).toNat) = some (.string (rdOf ByteArray.empty t389 x15_4)) ∧ w'.cell? (ad416.add (x15_4).toNat) = some (.string (rdOf ByteArray.empty x6_1 x15_4)) ∧ w'.cell? (ad403.add (x15_4).toNat) = some (.string (rdOf ByteArray.empty t389 x15_4)) ∧ w'.cell? (ad418.add (x15_4).toNat) = some (.string (rdOf ByteArray.empty t395 x15_4))) (ds := []) q4k19 (by kernel_rfl) rfl rfl ⟨(blk_cell BK388.out 0).trans rfl, (blk_cell BK388.out 1).trans rfl, (blk_cell BK388.out 2).trans rfl, (blk_cell BK388.out 3).trans rfl, hx415_0, hx416_0, hx417_0, hx418_0⟩ (fun hHeld => ?_); refine with_tabW clinkerlaw13_ModelParts.tab20 clinkerlaw13_ModelParts.bits20 (fun HT_ HW_ => ?_)
          generalize w93.drew = w96 at HO_6 HO_10 HO_11 HO_12 HO_389003 HO_403001 BK388 BK402 HB hx415_0 hx416_0 hx417_0 hx418_0 hHeld ⊢
          refine pa 0 (some 81) ?_
          refine pa 1 (some 82) ?_
          refine pa 3 (some 84) ?_
          refine ta 2 (some 83) hHeld ?_
          refine pa 4 (some 85) ?_
          refine pa 5 (some 86) ?_
          refine pa 6 (some 87) ?_
          refine pc 7 (some 88) ?_
          refine pc 8 (some 89) ?_
          refine pc 9 (some 90) ?_
          refine pc 10 (some 91) ?_
          refine pc 11 (some 92) ?_
          refine pc 12 (some 93) ?_
          refine pc 13 (some 94) ?_
          refine pc 14 (some 95) ?_
          refine pc 15 (some 96) ?_
          refine pa 16 (some 97) ?_
          refine pa 17 (some 98) ?_
          refine pa 18 (some 99) ?_
          refine pa 19 (some 100) ?_
          refine pa 20 (some 101) ?_
          refine pa 22 (some 103) ?_
          refine pa 23 (some 104) ?_
          refine pa 24 (some 105) ?_
          refine ta 21 (some 102) hHeld ?_
          refine ta 25 (some 106) hHeld ?_
          refine pa 26 (some 107) ?_
          refine pa 27 (some 108) ?_
          refine pa 28 (some 109) ?_
          refine pa 29 (some 110) ?_
          refine pa 30 (some 111) ?_
          refine pa 32 (some 113) ?_
          refine pa 33 (some 114) ?_
          refine pa 34 (some 115) ?_
          refine ta 31 (some 112) hHeld ?_
          refine ta 35 (some 116) hHeld ?_
          refine pa 36 (some 117) ?_
          refine pa 37 (some 118) ?_
          refine pa 38 (some 119) ?_
          refine done_ (done_of HT_.out (by kernel_rfl)) ?_
          try go_wp2
          go_roundg k4
          case measure => have := HK1.out; have := HJ7.out; have := HJ16.out; have := HK4.out; (try clear c47); (try clear c84); omega
          case rel => exact ⟨(wrap64 (x14_4 + 1)), (wrap64 (x15_4 + 1)), (by first | rfl | (simp; done) | (simp [*]; done)), (by first | rfl | (simp; done) | (simp [*]; done)), H', ⟨by have := HK1.out; have := HJ7.out; have := HJ16.out; have := HK4.out; (try clear c47); (try clear c84); omega⟩, ⟨mV HO_6.out⟩, ⟨mR HO_10.out⟩, ⟨mR HO_11.out⟩, ⟨mV HO_12.out⟩, ⟨mR HO_389003.out⟩, ⟨mR HO_403001.out⟩, ⟨mB BK388.out⟩, ⟨mB BK402.out⟩, ⟨mH⟩⟩
         rw [if_pos c46] at H
         have c46b0 : ((rdOf ByteArray.empty t389 x15_4).toList == (rdOf ByteArray.empty t392 x15_4).toList) = true := beq_iff_eq.mpr c46
         have c46b1 : ((rdOf ByteArray.empty t389 x15_4).toList != (rdOf ByteArray.empty t392 x15_4).toList) = false := bne_eq_false_iff_eq.mpr c46
         clear c46
         by_cases c47 : x15_4 = (wrap64 (t383 + (Int.tmod (wrap64 (a1)) 6)))
         case pos =>
          as_aux_lemma =>
          rw [if_pos c47] at H
          have c47b0 : (x15_4 == (wrap64 (t383 + (Int.tmod (wrap64 (a1)) 6)))) = true := beq_iff_eq.mpr c47
          have c47b1 : (x15_4 != (wrap64 (t383 + (Int.tmod (wrap64 (a1)) 6)))) = false := bne_eq_false_iff_eq.mpr c47
          clear c47
          by_cases c48 : x15_4 < (x6_1.length : Int)
          case neg =>
           rw [if_neg c48] at H
           exact absurd H (by simp)
          rw [if_pos c48] at H
          have c48b0 : decide (x15_4 < (x6_1.length : Int)) = true := decide_eq_true c48
          clear c48
          by_cases c49 : (rdOf ByteArray.empty t389 x15_4).toList = (rdOf ByteArray.empty x6_1 x15_4).toList
          case pos =>
           rw [if_pos c49] at H
           have c49b0 : ((rdOf ByteArray.empty t389 x15_4).toList == (rdOf ByteArray.empty x6_1 x15_4).toList) = true := beq_iff_eq.mpr c49
           have c49b1 : ((rdOf ByteArray.empty t389 x15_4).toList != (rdOf ByteArray.empty x6_1 x15_4).toList) = false := bne_eq_false_iff_eq.mpr c49
           clear c49
           have H' := Aside0.mk H
           clear H
           try go_wp2
           replace HO_6 := Aside0.mk (vD HO_6.out)
           replace HO_10 := Aside0.mk (Kd.R_drew HO_10.out)
           replace HO_11 := Aside0.mk (Kd.R_drew HO_11.out)
           replace HO_12 := Aside0.mk (vD HO_12.out)
           replace HO_389003 := Aside0.mk (Kd.R_drew HO_389003.out)
           replace HO_403001 := Aside0.mk (Kd.R_drew HO_403001.out)
           replace BK388 := Aside0.mk (bD BK388.out)
           replace BK402 := Aside0.mk (bD BK402.out)
           replace HB := Aside0.mk (lD HB.out)
           obtain ⟨Ao51, co51, eo51⟩ := Kd.R_slice HO_10.out
           (first | subst eo51 | (injection eo51 with f1_ f2_ f3_; have f4_ := f1_.symm; have f5_ := f3_.symm; clear f1_ f2_ f3_; subst f4_; subst f5_))
           have p403 : 0 ≤ (x15_4 : Int) := of_decide_eq_true (by first | (with_reducible assumption) | assumption)
           have q403 : x15_4 < (t389.length : Int) := of_decide_eq_true (by first | (with_reducible assumption) | assumption)
           obtain ⟨ad403, e403, hx403_0⟩ := Kd.at_string (Kd.R_reads' HO_10.out).2.2 x15_4 p403 q403
           cases e403
           replace p403 := eq_true p403
           replace q403 := eq_true q403
           obtain ⟨Ao52, co52, eo52⟩ := Kd.R_slice HO_11.out
           (first | subst eo52 | (injection eo52 with f1_ f2_ f3_; have f4_ := f1_.symm; have f5_ := f3_.symm; clear f1_ f2_ f3_; subst f4_; subst f5_))
           have p404 : 0 ≤ (x15_4 : Int) := of_decide_eq_true (by first | (with_reducible assumption) | assumption)
           have q404 : x15_4 < (t392.length : Int) := of_decide_eq_true (by first | (with_reducible assumption) | assumption)
           obtain ⟨ad404, e404, hx404_0⟩ := Kd.at_string (Kd.R_reads' HO_11.out).2.2 x15_4 p404 q404
           cases e404
           replace p404 := eq_true p404
           replace q404 := eq_true q404
           refine start_ (n := 9) (S := fun w' => w'.cell? (ad403.add (x15_4).toNat) = some (.string (rdOf ByteArray.empty t389 x15_4)) ∧ w'.cell? (ad404.add (x15_4).toNat) = some (.string (rdOf ByteArray.empty t392 x15_4))) (ds := []) q3k19 (by kernel_rfl) rfl rfl ⟨hx403_0, hx404_0⟩ (fun hHeld => ?_); refine with_tabW clinkerlaw13_ModelParts.tab18 clinkerlaw13_ModelParts.bits18 (fun HT_ HW_ => ?_)
           generalize wr.drew = w50 at HO_6 HO_10 HO_11 HO_12 HO_389003 HO_403001 BK388 BK402 HB hx403_0 hx404_0 hHeld ⊢
           refine pa 0 (some 70) ?_
           refine pa 1 (some 71) ?_
           refine pa 2 (some 72) ?_
           refine pa 4 (some 74) ?_
           refine pa 5 (some 75) ?_
           refine pa 6 (some 76) ?_
           refine ta 3 (some 73) hHeld ?_
           refine ta 7 (some 77) hHeld ?_
           refine pa 8 (some 78) ?_
           refine done_ (done_of HT_.out (by kernel_rfl)) ?_
           try go_wp2
           replace HO_6 := Aside0.mk (vD HO_6.out)
           replace HO_10 := Aside0.mk (Kd.R_drew HO_10.out)
           replace HO_11 := Aside0.mk (Kd.R_drew HO_11.out)
           replace HO_12 := Aside0.mk (vD HO_12.out)
           replace HO_389003 := Aside0.mk (Kd.R_drew HO_389003.out)
           replace HO_403001 := Aside0.mk (Kd.R_drew HO_403001.out)
           replace BK388 := Aside0.mk (bD BK388.out)
           replace BK402 := Aside0.mk (bD BK402.out)
           replace HB := Aside0.mk (lD HB.out)
           have p405 : 0 ≤ (x15_4 : Int) := of_decide_eq_true (by first | (with_reducible assumption) | assumption)
           have q405 : x15_4 < (t389.length : Int) := of_decide_eq_true (by first | (with_reducible assumption) | assumption)
           obtain ⟨ad405, e405, hx405_0⟩ := Kd.at_string (Kd.R_reads' HO_10.out).2.2 x15_4 p405 q405
           obtain rfl : ad403 = ad405 := (by injection e405)
           replace p405 := eq_true p405
           replace q405 := eq_true q405
           have p406 : 0 ≤ (x15_4 : Int) := of_decide_eq_true (by first | (with_reducible assumption) | assumption)
           have q406 : x15_4 < (x6_1.length : Int) := of_decide_eq_true (by first | (with_reducible assumption) | assumption)
           obtain ⟨ad406, e406, hx406_0⟩ := Kd.at_string (Kd.V_reads' HO_6.out).2.2 x15_4 p406 q406
           cases e406
           replace p406 := eq_true p406
           replace q406 := eq_true q406
           refine start_ (n := 39) (S := fun w' => w'.cell? ⟨gb388, 0, none⟩ = some (.int .i64 t382) ∧ w'.cell? ⟨gb388, 1, none⟩ = some (.int .i64 t383) ∧ w'.cell? ⟨gb388, 2, none⟩ = some (.int .i64 t384) ∧ w'.cell? ⟨gb388, 3, none⟩ = some (.slice Ao21 t385.length co21) ∧ w'.cell? (ad403.add (x15_4).toNat) = some (.string (rdOf ByteArray.empty t389 x15_4)) ∧ w'.cell? (ad406.add (x15_4).toNat) = some (.string (rdOf ByteArray.empty x6_1 x15_4))) (ds := []) q4k19 (by kernel_rfl) rfl rfl ⟨(blk_cell BK388.out 0).trans rfl, (blk_cell BK388.out 1).trans rfl, (blk_cell BK388.out 2).trans rfl, (blk_cell BK388.out 3).trans rfl, hx405_0, hx406_0⟩ (fun hHeld => ?_); refine with_tabW clinkerlaw13_ModelParts.tab20 clinkerlaw13_ModelParts.bits20 (fun HT_ HW_ => ?_)
           generalize w50.drew = w53 at HO_6 HO_10 HO_11 HO_12 HO_389003 HO_403001 BK388 BK402 HB hx405_0 hx406_0 hHeld ⊢
           refine pa 0 (some 81) ?_
           refine pa 1 (some 82) ?_
           refine pa 3 (some 84) ?_
           refine ta 2 (some 83) hHeld ?_
           refine pa 4 (some 85) ?_
           refine pa 5 (some 86) ?_
           refine pa 6 (some 87) ?_
           refine pc 7 (some 88) ?_
           refine pc 8 (some 89) ?_
           refine pc 9 (some 90) ?_
           refine pc 10 (some 91) ?_
           refine pc 11 (some 92) ?_
           refine pc 12 (some 93) ?_
           refine pc 13 (some 94) ?_
           refine pc 14 (some 95) ?_
           refine pc 15 (some 96) ?_
           refine pa 16 (some 97) ?_
           refine pa 17 (some 98) ?_
           refine pa 18 (some 99) ?_
           refine pa 19 (some 100) ?_
           refine pa 20 (some 101) ?_
           refine pa 22 (some 103) ?_
           refine pa 23 (some 104) ?_
           refine pa 24 (some 105) ?_
           refine ta 21 (some 102) hHeld ?_
           refine ta 25 (some 106) hHeld ?_
           refine pa 26 (some 107) ?_
           refine pa 27 (some 108) ?_
           refine pc 28 (some 109) ?_
           refine pc 29 (some 110) ?_
           refine pc 30 (some 111) ?_
           refine pc 31 (some 112) ?_
           refine pc 32 (some 113) ?_
           refine pc 33 (some 114) ?_
           refine pc 34 (some 115) ?_
           refine pc 35 (some 116) ?_
           refine pc 36 (some 117) ?_
           refine pa 37 (some 118) ?_
           refine pa 38 (some 119) ?_
           refine done_ (done_of HT_.out (by kernel_rfl)) ?_
           try go_wp2
           go_roundg k4
           case measure => have := HK1.out; have := HJ7.out; have := HJ16.out; have := HK4.out; (try clear c47); (try clear c84); omega
           case rel => exact ⟨(x14_4), (wrap64 (x15_4 + 1)), (by first | rfl | (simp; done) | (simp [*]; done)), (by first | rfl | (simp; done) | (simp [*]; done)), H', ⟨by have := HK1.out; have := HJ7.out; have := HJ16.out; have := HK4.out; (try clear c47); (try clear c84); omega⟩, ⟨mV HO_6.out⟩, ⟨mR HO_10.out⟩, ⟨mR HO_11.out⟩, ⟨mV HO_12.out⟩, ⟨mR HO_389003.out⟩, ⟨mR HO_403001.out⟩, ⟨mB BK388.out⟩, ⟨mB BK402.out⟩, ⟨mH⟩⟩
          rw [if_neg c49] at H
          have c49b0 : ((rdOf ByteArray.empty t389 x15_4).toList == (rdOf ByteArray.empty x6_1 x15_4).toList) = false := beq_eq_false_iff_ne.mpr c49
          have c49b1 : ((rdOf ByteArray.empty t389 x15_4).toList != (rdOf ByteArray.empty x6_1 x15_4).toList) = true := bne_iff_ne.mpr c49
          by_cases c54 : x15_4 < (t395.length : Int)
          case neg =>
           rw [if_neg c54] at H
           exact absurd H (by simp)
          rw [if_pos c54] at H
          have c54b0 : decide (x15_4 < (t395.length : Int)) = true := decide_eq_true c54
          clear c54
          by_cases c55 : (rdOf ByteArray.empty t389 x15_4).toList = (rdOf ByteArray.empty t395 x15_4).toList
          case neg =>
           rw [if_neg c55] at H
           have c55b0 : ((rdOf ByteArray.empty t389 x15_4).toList == (rdOf ByteArray.empty t395 x15_4).toList) = false := beq_eq_false_iff_ne.mpr c55
           have c55b1 : ((rdOf ByteArray.empty t389 x15_4).toList != (rdOf ByteArray.empty t395 x15_4).toList) = true := bne_iff_ne.mpr c55
           exact absurd (H.trans (congrArg some hrt.out)) (by simp)
          rw [if_pos c55] at H
          have c55b0 : ((rdOf ByteArray.empty t389 x15_4).toList == (rdOf ByteArray.empty t395 x15_4).toList) = true := beq_iff_eq.mpr c55
          have c55b1 : ((rdOf ByteArray.empty t389 x15_4).toList != (rdOf ByteArray.empty t395 x15_4).toList) = false := bne_eq_false_iff_eq.mpr c55
          clear c55
          have H' := Aside0.mk H
          clear H
          try go_wp2
          replace HO_6 := Aside0.mk (vD HO_6.out)
          replace HO_10 := Aside0.mk (Kd.R_drew HO_10.out)
          replace HO_11 := Aside0.mk (Kd.R_drew HO_11.out)
          replace HO_12 := Aside0.mk (vD HO_12.out)
          replace HO_389003 := Aside0.mk (Kd.R_drew HO_389003.out)
          replace HO_403001 := Aside0.mk (Kd.R_drew HO_403001.out)
          replace BK388 := Aside0.mk (bD BK388.out)
          replace BK402 := Aside0.mk (bD BK402.out)
          replace HB := Aside0.mk (lD HB.out)
          obtain ⟨Ao57, co57, eo57⟩ := Kd.R_slice HO_10.out
          (first | subst eo57 | (injection eo57 with f1_ f2_ f3_; have f4_ := f1_.symm; have f5_ := f3_.symm; clear f1_ f2_ f3_; subst f4_; subst f5_))
          have p403 : 0 ≤ (x15_4 : Int) := of_decide_eq_true (by first | (with_reducible assumption) | assumption)
          have q403 : x15_4 < (t389.length : Int) := of_decide_eq_true (by first | (with_reducible assumption) | assumption)
          obtain ⟨ad403, e403, hx403_0⟩ := Kd.at_string (Kd.R_reads' HO_10.out).2.2 x15_4 p403 q403
          cases e403
          replace p403 := eq_true p403
          replace q403 := eq_true q403
          obtain ⟨Ao58, co58, eo58⟩ := Kd.R_slice HO_11.out
          (first | subst eo58 | (injection eo58 with f1_ f2_ f3_; have f4_ := f1_.symm; have f5_ := f3_.symm; clear f1_ f2_ f3_; subst f4_; subst f5_))
          have p404 : 0 ≤ (x15_4 : Int) := of_decide_eq_true (by first | (with_reducible assumption) | assumption)
          have q404 : x15_4 < (t392.length : Int) := of_decide_eq_true (by first | (with_reducible assumption) | assumption)
          obtain ⟨ad404, e404, hx404_0⟩ := Kd.at_string (Kd.R_reads' HO_11.out).2.2 x15_4 p404 q404
          cases e404
          replace p404 := eq_true p404
          replace q404 := eq_true q404
          refine start_ (n := 9) (S := fun w' => w'.cell? (ad403.add (x15_4).toNat) = some (.string (rdOf ByteArray.empty t389 x15_4)) ∧ w'.cell? (ad404.add (x15_4).toNat) = some (.string (rdOf ByteArray.empty t392 x15_4))) (ds := []) q3k19 (by kernel_rfl) rfl rfl ⟨hx403_0, hx404_0⟩ (fun hHeld => ?_); refine with_tabW clinkerlaw13_ModelParts.tab18 clinkerlaw13_ModelParts.bits18 (fun HT_ HW_ => ?_)
          generalize wr.drew = w56 at HO_6 HO_10 HO_11 HO_12 HO_389003 HO_403001 BK388 BK402 HB hx403_0 hx404_0 hHeld ⊢
          refine pa 0 (some 70) ?_
          refine pa 1 (some 71) ?_
          refine pa 2 (some 72) ?_
          refine pa 4 (some 74) ?_
          refine pa 5 (some 75) ?_
          refine pa 6 (some 76) ?_
          refine ta 3 (some 73) hHeld ?_
          refine ta 7 (some 77) hHeld ?_
          refine pa 8 (some 78) ?_
          refine done_ (done_of HT_.out (by kernel_rfl)) ?_
          try go_wp2
          replace HO_6 := Aside0.mk (vD HO_6.out)
          replace HO_10 := Aside0.mk (Kd.R_drew HO_10.out)
          replace HO_11 := Aside0.mk (Kd.R_drew HO_11.out)
          replace HO_12 := Aside0.mk (vD HO_12.out)
          replace HO_389003 := Aside0.mk (Kd.R_drew HO_389003.out)
          replace HO_403001 := Aside0.mk (Kd.R_drew HO_403001.out)
          replace BK388 := Aside0.mk (bD BK388.out)
          replace BK402 := Aside0.mk (bD BK402.out)
          replace HB := Aside0.mk (lD HB.out)
          have p405 : 0 ≤ (x15_4 : Int) := of_decide_eq_true (by first | (with_reducible assumption) | assumption)
          have q405 : x15_4 < (t389.length : Int) := of_decide_eq_true (by first | (with_reducible assumption) | assumption)
          obtain ⟨ad405, e405, hx405_0⟩ := Kd.at_string (Kd.R_reads' HO_10.out).2.2 x15_4 p405 q405
          obtain rfl : ad403 = ad405 := (by injection e405)
          replace p405 := eq_true p405
          replace q405 := eq_true q405
          have p406 : 0 ≤ (x15_4 : Int) := of_decide_eq_true (by first | (with_reducible assumption) | assumption)
          have q406 : x15_4 < (x6_1.length : Int) := of_decide_eq_true (by first | (with_reducible assumption) | assumption)
          obtain ⟨ad406, e406, hx406_0⟩ := Kd.at_string (Kd.V_reads' HO_6.out).2.2 x15_4 p406 q406
          cases e406
          replace p406 := eq_true p406
          replace q406 := eq_true q406
          have p407 : 0 ≤ (x15_4 : Int) := of_decide_eq_true (by first | (with_reducible assumption) | assumption)
          have q407 : x15_4 < (t389.length : Int) := of_decide_eq_true (by first | (with_reducible assumption) | assumption)
          obtain ⟨ad407, e407, hx407_0⟩ := Kd.at_string (Kd.R_reads' HO_10.out).2.2 x15_4 p407 q407
          obtain rfl : ad403 = ad407 := (by injection e407)
          replace p407 := eq_true p407
          replace q407 := eq_true q407
          obtain ⟨Ao60, co60, eo60⟩ := Kd.V_slice HO_12.out
          (first | subst eo60 | (injection eo60 with f1_ f2_ f3_; have f4_ := f1_.symm; have f5_ := f3_.symm; clear f1_ f2_ f3_; subst f4_; subst f5_))
          have p408 : 0 ≤ (x15_4 : Int) := of_decide_eq_true (by first | (with_reducible assumption) | assumption)
          have q408 : x15_4 < (t395.length : Int) := of_decide_eq_true (by first | (with_reducible assumption) | assumption)
          obtain ⟨ad408, e408, hx408_0⟩ := Kd.at_string (Kd.V_reads' HO_12.out).2.2 x15_4 p408 q408
          cases e408
          replace p408 := eq_true p408
          replace q408 := eq_true q408
          refine start_ (n := 39) (S := fun w' => w'.cell? ⟨gb388, 0, none⟩ = some (.int .i64 t382) ∧ w'.cell? ⟨gb388, 1, none⟩ = some (.int .i64 t383) ∧ w'.cell? ⟨gb388, 2, none⟩ = some (.int .i64 t384) ∧ w'.cell? ⟨gb388, 3, none⟩ = some (.slice Ao21 t385.length co21) ∧ w'.cell? (ad403.add (x15_4).toNat) = some (.string (rdOf ByteArray.empty t389 x15_4)) ∧ w'.cell? (ad406.add (x15_4).toNat) = some (.string (rdOf ByteArray.empty x6_1 x15_4)) ∧ w'.cell? (ad403.add (x15_4).toNat) = some (.string (rdOf ByteArray.empty t389 x15_4)) ∧ w'.cell? (ad408.add (x15_4).toNat) = some (.string (rdOf ByteArray.empty t395 x15_4))) (ds := []) q4k19 (by kernel_rfl) rfl rfl ⟨(blk_cell BK388.out 0).trans rfl, (blk_cell BK388.out 1).trans rfl, (blk_cell BK388.out 2).trans rfl, (blk_cell BK388.out 3).trans rfl, hx405_0, hx406_0, hx407_0, hx408_0⟩ (fun hHeld => ?_); refine with_tabW clinkerlaw13_ModelParts.tab20 clinkerlaw13_ModelParts.bits20 (fun HT_ HW_ => ?_)
          generalize w56.drew = w59 at HO_6 HO_10 HO_11 HO_12 HO_389003 HO_403001 BK388 BK402 HB hx405_0 hx406_0 hx407_0 hx408_0 hHeld ⊢
          refine pa 0 (some 81) ?_
          refine pa 1 (some 82) ?_
          refine pa 3 (some 84) ?_
          refine ta 2 (some 83) hHeld ?_
          refine pa 4 (some 85) ?_
          refine pa 5 (some 86) ?_
          refine pa 6 (some 87) ?_
          refine pc 7 (some 88) ?_
          refine pc 8 (some 89) ?_
          refine pc 9 (some 90) ?_
          refine pc 10 (some 91) ?_
          refine pc 11 (some 92) ?_
          refine pc 12 (some 93) ?_
          refine pc 13 (some 94) ?_
          refine pc 14 (some 95) ?_
          refine pc 15 (some 96) ?_
          refine pa 16 (some 97) ?_
          refine pa 17 (some 98) ?_
          refine pa 18 (some 99) ?_
          refine pa 19 (some 100) ?_
          refine pa 20 (some 101) ?_
          refine pa 22 (some 103) ?_
          refine pa 23 (some 104) ?_
          refine pa 24 (some 105) ?_
          refine ta 21 (some 102) hHeld ?_
          refine ta 25 (some 106) hHeld ?_
          refine pa 26 (some 107) ?_
          refine pa 27 (some 108) ?_
          refine pa 28 (some 109) ?_
          refine pa 29 (some 110) ?_
          refine pa 30 (some 111) ?_
          refine pa 32 (some 113) ?_
          refine pa 33 (some 114) ?_
          refine pa 34 (some 115) ?_
          refine ta 31 (some 112) hHeld ?_
          refine ta 35 (some 116) hHeld ?_
          refine pa 36 (some 117) ?_
          refine pa 37 (some 118) ?_
          refine pa 38 (some 119) ?_
          refine done_ (done_of HT_.out (by kernel_rfl)) ?_
          try go_wp2
          go_roundg k4
          case measure => have := HK1.out; have := HJ7.out; have := HJ16.out; have := HK4.out; (try clear c47); (try clear c84); omega
          case rel => exact ⟨(x14_4), (wrap64 (x15_4 + 1)), (by first | rfl | (simp; done) | (simp [*]; done)), (by first | rfl | (simp; done) | (simp [*]; done)), H', ⟨by have := HK1.out; have := HJ7.out; have := HJ16.out; have := HK4.out; (try clear c47); (try clear c84); omega⟩, ⟨mV HO_6.out⟩, ⟨mR HO_10.out⟩, ⟨mR HO_11.out⟩, ⟨mV HO_12.out⟩, ⟨mR HO_389003.out⟩, ⟨mR HO_403001.out⟩, ⟨mB BK388.out⟩, ⟨mB BK402.out⟩, ⟨mH⟩⟩
         rw [if_neg c47] at H
         have c47b0 : (x15_4 == (wrap64 (t383 + (Int.tmod (wrap64 (a1)) 6)))) = false := beq_eq_false_iff_ne.mpr c47
         have c47b1 : (x15_4 != (wrap64 (t383 + (Int.tmod (wrap64 (a1)) 6)))) = true := bne_iff_ne.mpr c47
         by_cases c66 : x15_4 < (x6_1.length : Int)
         case neg =>
          rw [if_neg c66] at H
          exact absurd H (by simp)
         rw [if_pos c66] at H
         have c66b0 : decide (x15_4 < (x6_1.length : Int)) = true := decide_eq_true c66
         clear c66
         by_cases c67 : (rdOf ByteArray.empty t389 x15_4).toList = (rdOf ByteArray.empty x6_1 x15_4).toList
         case pos =>
          as_aux_lemma =>
          rw [if_pos c67] at H
          have c67b0 : ((rdOf ByteArray.empty t389 x15_4).toList == (rdOf ByteArray.empty x6_1 x15_4).toList) = true := beq_iff_eq.mpr c67
          have c67b1 : ((rdOf ByteArray.empty t389 x15_4).toList != (rdOf ByteArray.empty x6_1 x15_4).toList) = false := bne_eq_false_iff_eq.mpr c67
          clear c67
          have H' := Aside0.mk H
          clear H
          try go_wp2
          replace HO_6 := Aside0.mk (vD HO_6.out)
          replace HO_10 := Aside0.mk (Kd.R_drew HO_10.out)
          replace HO_11 := Aside0.mk (Kd.R_drew HO_11.out)
          replace HO_12 := Aside0.mk (vD HO_12.out)
          replace HO_389003 := Aside0.mk (Kd.R_drew HO_389003.out)
          replace HO_403001 := Aside0.mk (Kd.R_drew HO_403001.out)
          replace BK388 := Aside0.mk (bD BK388.out)
          replace BK402 := Aside0.mk (bD BK402.out)
          replace HB := Aside0.mk (lD HB.out)
          obtain ⟨Ao69, co69, eo69⟩ := Kd.R_slice HO_10.out
          (first | subst eo69 | (injection eo69 with f1_ f2_ f3_; have f4_ := f1_.symm; have f5_ := f3_.symm; clear f1_ f2_ f3_; subst f4_; subst f5_))
          have p403 : 0 ≤ (x15_4 : Int) := of_decide_eq_true (by first | (with_reducible assumption) | assumption)
          have q403 : x15_4 < (t389.length : Int) := of_decide_eq_true (by first | (with_reducible assumption) | assumption)
          obtain ⟨ad403, e403, hx403_0⟩ := Kd.at_string (Kd.R_reads' HO_10.out).2.2 x15_4 p403 q403
          cases e403
          replace p403 := eq_true p403
          replace q403 := eq_true q403
          obtain ⟨Ao70, co70, eo70⟩ := Kd.R_slice HO_11.out
          (first | subst eo70 | (injection eo70 with f1_ f2_ f3_; have f4_ := f1_.symm; have f5_ := f3_.symm; clear f1_ f2_ f3_; subst f4_; subst f5_))
          have p404 : 0 ≤ (x15_4 : Int) := of_decide_eq_true (by first | (with_reducible assumption) | assumption)
          have q404 : x15_4 < (t392.length : Int) := of_decide_eq_true (by first | (with_reducible assumption) | assumption)
          obtain ⟨ad404, e404, hx404_0⟩ := Kd.at_string (Kd.R_reads' HO_11.out).2.2 x15_4 p404 q404
          cases e404
          replace p404 := eq_true p404
          replace q404 := eq_true q404
          refine start_ (n := 9) (S := fun w' => w'.cell? (ad403.add (x15_4).toNat) = some (.string (rdOf ByteArray.empty t389 x15_4)) ∧ w'.cell? (ad404.add (x15_4).toNat) = some (.string (rdOf ByteArray.empty t392 x15_4))) (ds := []) q3k19 (by kernel_rfl) rfl rfl ⟨hx403_0, hx404_0⟩ (fun hHeld => ?_); refine with_tabW clinkerlaw13_ModelParts.tab18 clinkerlaw13_ModelParts.bits18 (fun HT_ HW_ => ?_)
          generalize wr.drew = w68 at HO_6 HO_10 HO_11 HO_12 HO_389003 HO_403001 BK388 BK402 HB hx403_0 hx404_0 hHeld ⊢
          refine pa 0 (some 70) ?_
          refine pa 1 (some 71) ?_
          refine pa 2 (some 72) ?_
          refine pa 4 (some 74) ?_
          refine pa 5 (some 75) ?_
          refine pa 6 (some 76) ?_
          refine ta 3 (some 73) hHeld ?_
          refine ta 7 (some 77) hHeld ?_
          refine pa 8 (some 78) ?_
          refine done_ (done_of HT_.out (by kernel_rfl)) ?_
          try go_wp2
          replace HO_6 := Aside0.mk (vD HO_6.out)
          replace HO_10 := Aside0.mk (Kd.R_drew HO_10.out)
          replace HO_11 := Aside0.mk (Kd.R_drew HO_11.out)
          replace HO_12 := Aside0.mk (vD HO_12.out)
          replace HO_389003 := Aside0.mk (Kd.R_drew HO_389003.out)
          replace HO_403001 := Aside0.mk (Kd.R_drew HO_403001.out)
          replace BK388 := Aside0.mk (bD BK388.out)
          replace BK402 := Aside0.mk (bD BK402.out)
          replace HB := Aside0.mk (lD HB.out)
          have p409 : 0 ≤ (x15_4 : Int) := of_decide_eq_true (by first | (with_reducible assumption) | assumption)
          have q409 : x15_4 < (t389.length : Int) := of_decide_eq_true (by first | (with_reducible assumption) | assumption)
          obtain ⟨ad409, e409, hx409_0⟩ := Kd.at_string (Kd.R_reads' HO_10.out).2.2 x15_4 p409 q409
          obtain rfl : ad403 = ad409 := (by injection e409)
          replace p409 := eq_true p409
          replace q409 := eq_true q409
          have p410 : 0 ≤ (x15_4 : Int) := of_decide_eq_true (by first | (with_reducible assumption) | assumption)
          have q410 : x15_4 < (t392.length : Int) := of_decide_eq_true (by first | (with_reducible assumption) | assumption)
          obtain ⟨ad410, e410, hx410_0⟩ := Kd.at_string (Kd.R_reads' HO_11.out).2.2 x15_4 p410 q410
          obtain rfl : ad404 = ad410 := (by injection e410)
          replace p410 := eq_true p410
          replace q410 := eq_true q410
          have p411 : 0 ≤ (x15_4 : Int) := of_decide_eq_true (by first | (with_reducible assumption) | assumption)
          have q411 : x15_4 < (t389.length : Int) := of_decide_eq_true (by first | (with_reducible assumption) | assumption)
          obtain ⟨ad411, e411, hx411_0⟩ := Kd.at_string (Kd.R_reads' HO_10.out).2.2 x15_4 p411 q411
          obtain rfl : ad403 = ad411 := (by injection e411)
          replace p411 := eq_true p411
          replace q411 := eq_true q411
          have p412 : 0 ≤ (x15_4 : Int) := of_decide_eq_true (by first | (with_reducible assumption) | assumption)
          have q412 : x15_4 < (x6_1.length : Int) := of_decide_eq_true (by first | (with_reducible assumption) | assumption)
          obtain ⟨ad412, e412, hx412_0⟩ := Kd.at_string (Kd.V_reads' HO_6.out).2.2 x15_4 p412 q412
          cases e412
          replace p412 := eq_true p412
          replace q412 := eq_true q412
          refine start_ (n := 39) (S := fun w' => w'.cell? ⟨gb388, 0, none⟩ = some (.int .i64 t382) ∧ w'.cell? ⟨gb388, 1, none⟩ = some (.int .i64 t383) ∧ w'.cell? ⟨gb388, 2, none⟩ = some (.int .i64 t384) ∧ w'.cell? ⟨gb388, 3, none⟩ = some (.slice Ao21 t385.length co21) ∧ w'.cell? (ad403.add (x15_4).toNat) = some (.string (rdOf ByteArray.empty t389 x15_4)) ∧ w'.cell? (ad404.add (x15_4).toNat) = some (.string (rdOf ByteArray.empty t392 x15_4)) ∧ w'.cell? (ad403.add (x15_4).toNat) = some (.string (rdOf ByteArray.empty t389 x15_4)) ∧ w'.cell? (ad412.add (x15_4).toNat) = some (.string (rdOf ByteArray.empty x6_1 x15_4))) (ds := []) q4k19 (by kernel_rfl) rfl rfl ⟨(blk_cell BK388.out 0).trans rfl, (blk_cell BK388.out 1).trans rfl, (blk_cell BK388.out 2).trans rfl, (blk_cell BK388.out 3).trans rfl, hx409_0, hx410_0, hx411_0, hx412_0⟩ (fun hHeld => ?_); refine with_tabW clinkerlaw13_ModelParts.tab20 clinkerlaw13_ModelParts.bits20 (fun HT_ HW_ => ?_)
          generalize w68.drew = w71 at HO_6 HO_10 HO_11 HO_12 HO_389003 HO_403001 BK388 BK402 HB hx409_0 hx410_0 hx411_0 hx412_0 hHeld ⊢
          refine pa 0 (some 81) ?_
          refine pa 1 (some 82) ?_
          refine pa 3 (some 84) ?_
          refine ta 2 (some 83) hHeld ?_
          refine pa 4 (some 85) ?_
          refine pa 5 (some 86) ?_
          refine pa 6 (some 87) ?_
          refine pa 7 (some 88) ?_
          refine pa 8 (some 89) ?_
          refine pa 9 (some 90) ?_
          refine pa 11 (some 92) ?_
          refine pa 12 (some 93) ?_
          refine pa 13 (some 94) ?_
          refine ta 10 (some 91) hHeld ?_
          refine ta 14 (some 95) hHeld ?_
          refine pa 15 (some 96) ?_
          refine pa 16 (some 97) ?_
          refine pa 17 (some 98) ?_
          refine pa 18 (some 99) ?_
          refine pa 19 (some 100) ?_
          refine pa 20 (some 101) ?_
          refine pa 22 (some 103) ?_
          refine pa 23 (some 104) ?_
          refine pa 24 (some 105) ?_
          refine ta 21 (some 102) hHeld ?_
          refine ta 25 (some 106) hHeld ?_
          (try clear c46b0); (try clear c46b1); (try clear c46b2); (try clear c47); (try clear c47b0); (try clear c47b1)
          refine pa 26 (some 107) ?_
          refine pa 27 (some 108) ?_
          refine pc 28 (some 109) ?_
          refine pc 29 (some 110) ?_
          refine pc 30 (some 111) ?_
          refine pc 31 (some 112) ?_
          refine pc 32 (some 113) ?_
          refine pc 33 (some 114) ?_
          refine pc 34 (some 115) ?_
          refine pc 35 (some 116) ?_
          refine pc 36 (some 117) ?_
          refine pa 37 (some 118) ?_
          refine pa 38 (some 119) ?_
          refine done_ (done_of HT_.out (by kernel_rfl)) ?_
          try go_wp2
          go_roundg k4
          case measure => have := HK1.out; have := HJ7.out; have := HJ16.out; have := HK4.out; (try clear c47); (try clear c84); omega
          case rel => exact ⟨(x14_4), (wrap64 (x15_4 + 1)), (by first | rfl | (simp; done) | (simp [*]; done)), (by first | rfl | (simp; done) | (simp [*]; done)), H', ⟨by have := HK1.out; have := HJ7.out; have := HJ16.out; have := HK4.out; (try clear c47); (try clear c84); omega⟩, ⟨mV HO_6.out⟩, ⟨mR HO_10.out⟩, ⟨mR HO_11.out⟩, ⟨mV HO_12.out⟩, ⟨mR HO_389003.out⟩, ⟨mR HO_403001.out⟩, ⟨mB BK388.out⟩, ⟨mB BK402.out⟩, ⟨mH⟩⟩
         as_aux_lemma =>
         rw [if_neg c67] at H
         have c67b0 : ((rdOf ByteArray.empty t389 x15_4).toList == (rdOf ByteArray.empty x6_1 x15_4).toList) = false := beq_eq_false_iff_ne.mpr c67
         have c67b1 : ((rdOf ByteArray.empty t389 x15_4).toList != (rdOf ByteArray.empty x6_1 x15_4).toList) = true := bne_iff_ne.mpr c67
         by_cases c72 : x15_4 < (t395.length : Int)
         case neg =>
          rw [if_neg c72] at H
          exact absurd H (by simp)
         rw [if_pos c72] at H
         have c72b0 : decide (x15_4 < (t395.length : Int)) = true := decide_eq_true c72
         clear c72
         by_cases c73 : (rdOf ByteArray.empty t389 x15_4).toList = (rdOf ByteArray.empty t395 x15_4).toList
         case neg =>
          rw [if_neg c73] at H
          have c73b0 : ((rdOf ByteArray.empty t389 x15_4).toList == (rdOf ByteArray.empty t395 x15_4).toList) = false := beq_eq_false_iff_ne.mpr c73
          have c73b1 : ((rdOf ByteArray.empty t389 x15_4).toList != (rdOf ByteArray.empty t395 x15_4).toList) = true := bne_iff_ne.mpr c73
          exact absurd (H.trans (congrArg some hrt.out)) (by simp)
         rw [if_pos c73] at H
         have c73b0 : ((rdOf ByteArray.empty t389 x15_4).toList == (rdOf ByteArray.empty t395 x15_4).toList) = true := beq_iff_eq.mpr c73
         have c73b1 : ((rdOf ByteArray.empty t389 x15_4).toList != (rdOf ByteArray.empty t395 x15_4).toList) = false := bne_eq_false_iff_eq.mpr c73
         clear c73
         have H' := Aside0.mk H
         clear H
         try go_wp2
         replace HO_6 := Aside0.mk (vD HO_6.out)
         replace HO_10 := Aside0.mk (Kd.R_drew HO_10.out)
         replace HO_11 := Aside0.mk (Kd.R_drew HO_11.out)
         replace HO_12 := Aside0.mk (vD HO_12.out)
         replace HO_389003 := Aside0.mk (Kd.R_drew HO_389003.out)
         replace HO_403001 := Aside0.mk (Kd.R_drew HO_403001.out)
         replace BK388 := Aside0.mk (bD BK388.out)
         replace BK402 := Aside0.mk (bD BK402.out)
         replace HB := Aside0.mk (lD HB.out)
         obtain ⟨Ao75, co75, eo75⟩ := Kd.R_slice HO_10.out
         (first | subst eo75 | (injection eo75 with f1_ f2_ f3_; have f4_ := f1_.symm; have f5_ := f3_.symm; clear f1_ f2_ f3_; subst f4_; subst f5_))
         have p403 : 0 ≤ (x15_4 : Int) := of_decide_eq_true (by first | (with_reducible assumption) | assumption)
         have q403 : x15_4 < (t389.length : Int) := of_decide_eq_true (by first | (with_reducible assumption) | assumption)
         obtain ⟨ad403, e403, hx403_0⟩ := Kd.at_string (Kd.R_reads' HO_10.out).2.2 x15_4 p403 q403
         cases e403
         replace p403 := eq_true p403
         replace q403 := eq_true q403
         obtain ⟨Ao76, co76, eo76⟩ := Kd.R_slice HO_11.out
         (first | subst eo76 | (injection eo76 with f1_ f2_ f3_; have f4_ := f1_.symm; have f5_ := f3_.symm; clear f1_ f2_ f3_; subst f4_; subst f5_))
         have p404 : 0 ≤ (x15_4 : Int) := of_decide_eq_true (by first | (with_reducible assumption) | assumption)
         have q404 : x15_4 < (t392.length : Int) := of_decide_eq_true (by first | (with_reducible assumption) | assumption)
         obtain ⟨ad404, e404, hx404_0⟩ := Kd.at_string (Kd.R_reads' HO_11.out).2.2 x15_4 p404 q404
         cases e404
         replace p404 := eq_true p404
         replace q404 := eq_true q404
         refine start_ (n := 9) (S := fun w' => w'.cell? (ad403.add (x15_4).toNat) = some (.string (rdOf ByteArray.empty t389 x15_4)) ∧ w'.cell? (ad404.add (x15_4).toNat) = some (.string (rdOf ByteArray.empty t392 x15_4))) (ds := []) q3k19 (by kernel_rfl) rfl rfl ⟨hx403_0, hx404_0⟩ (fun hHeld => ?_); refine with_tabW clinkerlaw13_ModelParts.tab18 clinkerlaw13_ModelParts.bits18 (fun HT_ HW_ => ?_)
         generalize wr.drew = w74 at HO_6 HO_10 HO_11 HO_12 HO_389003 HO_403001 BK388 BK402 HB hx403_0 hx404_0 hHeld ⊢
         refine pa 0 (some 70) ?_
         refine pa 1 (some 71) ?_
         refine pa 2 (some 72) ?_
         refine pa 4 (some 74) ?_
         refine pa 5 (some 75) ?_
         refine pa 6 (some 76) ?_
         refine ta 3 (some 73) hHeld ?_
         refine ta 7 (some 77) hHeld ?_
         refine pa 8 (some 78) ?_
         refine done_ (done_of HT_.out (by kernel_rfl)) ?_
         try go_wp2
         replace HO_6 := Aside0.mk (vD HO_6.out)
         replace HO_10 := Aside0.mk (Kd.R_drew HO_10.out)
         replace HO_11 := Aside0.mk (Kd.R_drew HO_11.out)
         replace HO_12 := Aside0.mk (vD HO_12.out)
         replace HO_389003 := Aside0.mk (Kd.R_drew HO_389003.out)
         replace HO_403001 := Aside0.mk (Kd.R_drew HO_403001.out)
         replace BK388 := Aside0.mk (bD BK388.out)
         replace BK402 := Aside0.mk (bD BK402.out)
         replace HB := Aside0.mk (lD HB.out)
         have p409 : 0 ≤ (x15_4 : Int) := of_decide_eq_true (by first | (with_reducible assumption) | assumption)
         have q409 : x15_4 < (t389.length : Int) := of_decide_eq_true (by first | (with_reducible assumption) | assumption)
         obtain ⟨ad409, e409, hx409_0⟩ := Kd.at_string (Kd.R_reads' HO_10.out).2.2 x15_4 p409 q409
         obtain rfl : ad403 = ad409 := (by injection e409)
         replace p409 := eq_true p409
         replace q409 := eq_true q409
         have p410 : 0 ≤ (x15_4 : Int) := of_decide_eq_true (by first | (with_reducible assumption) | assumption)
         have q410 : x15_4 < (t392.length : Int) := of_decide_eq_true (by first | (with_reducible assumption) | assumption)
         obtain ⟨ad410, e410, hx410_0⟩ := Kd.at_string (Kd.R_reads' HO_11.out).2.2 x15_4 p410 q410
         obtain rfl : ad404 = ad410 := (by injection e410)
         replace p410 := eq_true p410
         replace q410 := eq_true q410
         have p411 : 0 ≤ (x15_4 : Int) := of_decide_eq_true (by first | (with_reducible assumption) | assumption)
         have q411 : x15_4 < (t389.length : Int) := of_decide_eq_true (by first | (with_reducible assumption) | assumption)
         obtain ⟨ad411, e411, hx411_0⟩ := Kd.at_string (Kd.R_reads' HO_10.out).2.2 x15_4 p411 q411
         obtain rfl : ad403 = ad411 := (by injection e411)
         replace p411 := eq_true p411
         replace q411 := eq_true q411
         have p412 : 0 ≤ (x15_4 : Int) := of_decide_eq_true (by first | (with_reducible assumption) | assumption)
         have q412 : x15_4 < (x6_1.length : Int) := of_decide_eq_true (by first | (with_reducible assumption) | assumption)
         obtain ⟨ad412, e412, hx412_0⟩ := Kd.at_string (Kd.V_reads' HO_6.out).2.2 x15_4 p412 q412
         cases e412
         replace p412 := eq_true p412
         replace q412 := eq_true q412
         have p413 : 0 ≤ (x15_4 : Int) := of_decide_eq_true (by first | (with_reducible assumption) | assumption)
         have q413 : x15_4 < (t389.length : Int) := of_decide_eq_true (by first | (with_reducible assumption) | assumption)
         obtain ⟨ad413, e413, hx413_0⟩ := Kd.at_string (Kd.R_reads' HO_10.out).2.2 x15_4 p413 q413
         obtain rfl : ad403 = ad413 := (by injection e413)
         replace p413 := eq_true p413
         replace q413 := eq_true q413
         obtain ⟨Ao78, co78, eo78⟩ := Kd.V_slice HO_12.out
         (first | subst eo78 | (injection eo78 with f1_ f2_ f3_; have f4_ := f1_.symm; have f5_ := f3_.symm; clear f1_ f2_ f3_; subst f4_; subst f5_))
         have p414 : 0 ≤ (x15_4 : Int) := of_decide_eq_true (by first | (with_reducible assumption) | assumption)
         have q414 : x15_4 < (t395.length : Int) := of_decide_eq_true (by first | (with_reducible assumption) | assumption)
         obtain ⟨ad414, e414, hx414_0⟩ := Kd.at_string (Kd.V_reads' HO_12.out).2.2 x15_4 p414 q414
         cases e414
         replace p414 := eq_true p414
         replace q414 := eq_true q414
         refine start_ (n := 39) (S := fun w' => w'.cell? ⟨gb388, 0, none⟩ = some (.int .i64 t382) ∧ w'.cell? ⟨gb388, 1, none⟩ = some (.int .i64 t383) ∧ w'.cell? ⟨gb388, 2, none⟩ = some (.int .i64 t384) ∧ w'.cell? ⟨gb388, 3, none⟩ = some (.slice Ao21 t385.length co21) ∧ w'.cell? (ad403.add (x15_4).toNat) = some (.string (rdOf ByteArray.empty t389 x15_4)) ∧ w'.cell? (ad404.add (x15_4).toNat) = some (.string (rdOf ByteArray.empty t392 x15_4)) ∧ w'.cell? (ad403.add (x15_4).toNat) = some (.string (rdOf ByteArray.empty t389 x15_4)) ∧ w'.cell? (ad412.add (x15_4).toNat) = some (.string (rdOf ByteArray.empty x6_1 x15_4)) ∧ w'.cell? (ad403.add (x15_4).toNat) = some (.string (rdOf ByteArray.empty t389 x15_4)) ∧ w'.cell? (ad414.add (x15_4).toNat) = some (.string (rdOf ByteArray.empty t395 x15_4))) (ds := []) q4k19 (by kernel_rfl) rfl rfl ⟨(blk_cell BK388.out 0).trans rfl, (blk_cell BK388.out 1).trans rfl, (blk_cell BK388.out 2).trans rfl, (blk_cell BK388.out 3).trans rfl, hx409_0, hx410_0, hx411_0, hx412_0, hx413_0, hx414_0⟩ (fun hHeld => ?_); refine with_tabW clinkerlaw13_ModelParts.tab20 clinkerlaw13_ModelParts.bits20 (fun HT_ HW_ => ?_)
         generalize w74.drew = w77 at HO_6 HO_10 HO_11 HO_12 HO_389003 HO_403001 BK388 BK402 HB hx409_0 hx410_0 hx411_0 hx412_0 hx413_0 hx414_0 hHeld ⊢
         refine pa 0 (some 81) ?_
         refine pa 1 (some 82) ?_
         refine pa 3 (some 84) ?_
         refine ta 2 (some 83) hHeld ?_
         refine pa 4 (some 85) ?_
         refine pa 5 (some 86) ?_
         refine pa 6 (some 87) ?_
         refine pa 7 (some 88) ?_
         refine pa 8 (some 89) ?_
         refine pa 9 (some 90) ?_
         refine pa 11 (some 92) ?_
         refine pa 12 (some 93) ?_
         refine pa 13 (some 94) ?_
         refine ta 10 (some 91) hHeld ?_
         refine ta 14 (some 95) hHeld ?_
         refine pa 15 (some 96) ?_
         refine pa 16 (some 97) ?_
         refine pa 17 (some 98) ?_
         refine pa 18 (some 99) ?_
         refine pa 19 (some 100) ?_
         refine pa 20 (some 101) ?_
         refine pa 22 (some 103) ?_
         refine pa 23 (some 104) ?_
         refine pa 24 (some 105) ?_
         refine ta 21 (some 102) hHeld ?_
         refine ta 25 (some 106) hHeld ?_
         (try clear c46b0); (try clear c46b1); (try clear c46b2); (try clear c47); (try clear c47b0); (try clear c47b1)
         refine pa 26 (some 107) ?_
         refine pa 27 (some 108) ?_
         refine pa 28 (some 109) ?_
         refine pa 29 (some 110) ?_
         refine pa 30 (some 111) ?_
         refine pa 32 (some 113) ?_
         refine pa 33 (some 114) ?_
         refine pa 34 (some 115) ?_
         refine ta 31 (some 112) hHeld ?_
         refine ta 35 (some 116) hHeld ?_
         refine pa 36 (some 117) ?_
         refine pa 37 (some 118) ?_
         refine pa 38 (some 119) ?_
         refine done_ (done_of HT_.out (by kernel_rfl)) ?_
         try go_wp2
         go_roundg k4
         case measure => have := HK1.out; have := HJ7.out; have := HJ16.out; have := HK4.out; (try clear c47); (try clear c84); omega
         case rel => exact ⟨(x14_4), (wrap64 (x15_4 + 1)), (by first | rfl | (simp; done) | (simp [*]; done)), (by first | rfl | (simp; done) | (simp [*]; done)), H', ⟨by have := HK1.out; have := HJ7.out; have := HJ16.out; have := HK4.out; (try clear c47); (try clear c84); omega⟩, ⟨mV HO_6.out⟩, ⟨mR HO_10.out⟩, ⟨mR HO_11.out⟩, ⟨mV HO_12.out⟩, ⟨mR HO_389003.out⟩, ⟨mR HO_403001.out⟩, ⟨mB BK388.out⟩, ⟨mB BK402.out⟩, ⟨mH⟩⟩

end Go.Proofs.Ytcahhknehmhlaaa.PAll
