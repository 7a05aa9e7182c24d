/- Written by a program of this session (wip/xp) out of the translation: functions in plain Lean, and proofs that the calls come to these. -/
import Derived.Test.YtejhgjmapnmigaaPAllx0
import Derived.Test.YtejhgjmapnmigaaPAllx13
import Derived.Test.YtejhgjmapnmigaaPAllx16
import Derived.Test.YtejhgjmapnmigaaPAllx17
namespace Go.Proofs.Ytejhgjmapnmigaa.PAll
open Go.RowKit Go.Proofs.YtejhgjmapnmigaaW.PrintWords Go.Proofs.YtejhgjmapnmigaaW.PrintLast Go.Proofs.YtejhgjmapnmigaaW.PrintMore
attribute [local go_sem] max2_int min2_int max_two min_two max_three min_three max_four min_four   -- for this text's walks alone
set_option linter.unusedVariables false
set_option linter.unusedSimpArgs false

/-! ### clinkerlaw03_TagMade: function 4 -/
def clinkerlaw03_TagMade.j0 : Nat → ByteArray → Int → Int → Int → Int → List Int → List Int → Option (Bool)
 | 0, _, _, _, _, _, _, _ => none
 | k + 1, x1, x2, x3, x229000, x229001, x229002, x229003 => (clinkerlaw03_same.f k x229000 x229001 x229002 x229003 x1).bind fun t229 => (if t229 = true then (if (Int.tmod x2 5) = 0 then ((clinkerlaw03_awake.f).bind fun t230 => (if t230 = true then ((clinkerlaw03_same.f k x3 x229001 x229002 x229003 x1).bind fun t231 => (some t231)) else (some false))) else (if (Int.tmod x2 5) = 1 then ((clinkerlaw03_awake.f).bind fun t232 => (if t232 = true then ((clinkerlaw03_same.f k x229000 x3 x229002 x229003 x1).bind fun t233 => (some t233)) else (some false))) else (if (Int.tmod x2 5) = 2 then (if x229002.length < 17592186044416 then ((clinkerlaw03_awake.f).bind fun t237 => (if t237 = true then ((clinkerlaw03_same.f k x229000 x229001 (x229002 ++ [x3]) x229003 x1).bind fun t238 => (some t238)) else (some false))) else (none)) else (if (Int.tmod x2 5) = 3 then (if x229003.length < 17592186044416 then ((clinkerlaw03_awake.f).bind fun t242 => (if t242 = true then ((clinkerlaw03_same.f k x229000 x229001 x229002 (x229003 ++ [x3]) x1).bind fun t243 => (some t243)) else (some false))) else (none)) else (if 0 ≤ (wrap64 ((x229002.length : Int) - 1)) then (if (wrap64 ((x229002.length : Int) - 1)) ≤ (x229002.length : Int) then ((clinkerlaw03_awake.f).bind fun t247 => (if t247 = true then ((clinkerlaw03_same.f k x229000 x229001 (x229002.take ((wrap64 ((x229002.length : Int) - 1)) : Int).toNat) x229003 x1).bind fun t248 => (some t248)) else (some false))) else (none)) else (none)))))) else (some false))
def clinkerlaw03_TagMade.f (k : Nat) (l0 : List Int) (a1 : ByteArray) (a2 : Int) (a3 : Int) : Option (Bool) := (clinkerlaw03_Made.f l0).bind fun bt220 => (if (a1.size : Int) > 20 then (if 0 ≤ 20 then (if 20 ≤ (a1.size : Int) then (clinkerlaw03_TagMade.j0 k (a1.extract 0 20) a2 a3 bt220.1 bt220.2.1 bt220.2.2.1 bt220.2.2.2) else (none)) else (none)) else (clinkerlaw03_TagMade.j0 k a1 a2 a3 bt220.1 bt220.2.1 bt220.2.2.1 bt220.2.2.2))
theorem clinkerlaw03_TagMade.mono_l : ∀ k, (∀ y0 y1 y2 y3 y4 y5 y6, LeO (clinkerlaw03_TagMade.j0 k y0 y1 y2 y3 y4 y5 y6) (clinkerlaw03_TagMade.j0 (k + 1) y0 y1 y2 y3 y4 y5 y6))
 | 0 => fun _ _ _ _ _ _ _ r h => by simp [clinkerlaw03_TagMade.j0] at h
 | k + 1 => by
  have ih0 := clinkerlaw03_TagMade.mono_l k
  ·
   intro y0 y1 y2 y3 y4 y5 y6
   unfold clinkerlaw03_TagMade.j0
   repeat' first
   | (with_reducible exact ih0 _ _ _ _ _ _ _)
   | (with_reducible exact clinkerlaw03_same.mono _ _ _ _ _ _)
   | (with_reducible exact LeO.refl _)
   | (with_reducible exact LeO.none _)
   | (with_reducible refine LeO.ite ?_ ?_)
   | (with_reducible refine LeO.bind ?_ (fun _ => ?_))
   | exact ih0 _ _ _ _ _ _ _
   | exact clinkerlaw03_same.mono _ _ _ _ _ _
   | exact LeO.none _
   | refine LeO.ite ?_ ?_
   | refine LeO.bind ?_ (fun _ => ?_)
theorem clinkerlaw03_TagMade.mono : ∀ a0 a1 a2 a3 k, LeO (clinkerlaw03_TagMade.f k a0 a1 a2 a3) (clinkerlaw03_TagMade.f (k + 1) a0 a1 a2 a3) := by
 intro a0 a1 a2 a3 k
 have ih0 := clinkerlaw03_TagMade.mono_l k
 unfold clinkerlaw03_TagMade.f
 repeat' first
   | (with_reducible exact ih0 _ _ _ _ _ _ _)
   | (with_reducible exact clinkerlaw03_same.mono _ _ _ _ _ _)
   | (with_reducible exact LeO.refl _)
   | (with_reducible exact LeO.none _)
   | (with_reducible refine LeO.ite ?_ ?_)
   | (with_reducible refine LeO.bind ?_ (fun _ => ?_))
   | exact ih0 _ _ _ _ _ _ _
   | exact clinkerlaw03_same.mono _ _ _ _ _ _
   | exact LeO.none _
   | refine LeO.ite ?_ ?_
   | refine LeO.bind ?_ (fun _ => ?_)
set_option maxHeartbeats 8000000 in
set_option maxRecDepth 100000 in
theorem clinkerlaw03_TagMade.calls (k : Nat) (A0 : Option Addr) (c0 : Nat) (l0 : List Int) (a1 : ByteArray) (a2 : Int) (a3 : Int) (r : Bool) (w : World) (hr0 : Kd.C (Kd.int .u16) w A0 l0.length l0) (hc0 : l0.length ≤ c0) (h : clinkerlaw03_TagMade.f k l0 a1 a2 a3 = some r) :
  Calls Try.prog 4 #[.slice A0 l0.length c0, .string a1, .int .u8 a2, .int .i64 a3] w fun e w' => e = .returned (.bool r) ∧ Below w.heap.size w w' := by
 have hu24 := Try.underlying24
 have HR0 := Aside0.mk hr0
 have HC0 := Aside0.mk hc0
 clear hr0 hc0
 have HB := Aside0.mk (Below.refl w.heap.size w)
 have H : ((clinkerlaw03_Made.f l0).bind fun bt220 => (if (a1.size : Int) > 20 then (if 0 ≤ 20 then (if 20 ≤ (a1.size : Int) then (clinkerlaw03_TagMade.j0 k (a1.extract 0 20) a2 a3 bt220.1 bt220.2.1 bt220.2.2.1 bt220.2.2.2) else (none)) else (none)) else (clinkerlaw03_TagMade.j0 k a1 a2 a3 bt220.1 bt220.2.1 bt220.2.2.1 bt220.2.2.2))) = some r := h
 clear h
 replace H := Option.bind_eq_some_iff.mp H
 obtain ⟨⟨t220, t221, t222, t225⟩, A50, H⟩ := H
 replace H : (if (a1.size : Int) > 20 then (if 0 ≤ 20 then (if 20 ≤ (a1.size : Int) then (clinkerlaw03_TagMade.j0 k (a1.extract 0 20) a2 a3 t220 t221 t222 t225) else (none)) else (none)) else (clinkerlaw03_TagMade.j0 k a1 a2 a3 t220 t221 t222 t225)) = some r := H
 have A5 := Aside0.mk A50
 clear A50
 have HC6 := Aside0.mk H
 clear H
 go_enter Try.func4, Try.ntmps4
 go_upto_if 14 with (first | ((with_reducible refine gate_callee (f := 14) rfl ?_); refine goesL_ (some 11) rfl rfl Try.func14 (by kernel_rfl) rfl #[.slice A0 l0.length c0] rfl (by (try simp only [List.map_toArray, List.map_cons, List.map_nil]); first | done | rfl | (simp only [List.length_drop, List.length_take]; rfl)) ?_; (with_reducible refine (clinkerlaw03_Made.calls _ _ l0 t220 t221 t222 t225 _ ?side1 ?side2 A5.out).mono ?_); (case side1 => repeat (first | exact HR0.out | (with_reducible refine Kd.C_alloc ?_ _) | (with_reducible refine Kd.C_drewN ?_ _) | (with_reducible refine Kd.C_drew ?_))); (case side2 => exact HC0.out); rintro e w7 ⟨v223, v226, rfl, ho0, ho1, hb⟩; refine ⟨_, rfl, ?_⟩; have n0_ := Aside0.mk (Kd.R_lower ho0 (below_size (by repeat (first | (with_reducible first | exact HB.out | apply below_alloc | apply pw_below_drewN | apply below_drew1) | exact HB.out)))); have n1_ := Aside0.mk (Kd.R_lower ho1 (below_size (by repeat (first | (with_reducible first | exact HB.out | apply below_alloc | apply pw_below_drewN | apply below_drew1) | exact HB.out)))); have n2_ := Aside0.mk (below_step (by repeat (first | (with_reducible first | exact HB.out | apply below_alloc | apply pw_below_drewN | apply below_drew1) | exact HB.out)) hb); clear HB; have HO224 := n0_; have HO227 := n1_; have HB := n2_; clear n0_ n1_ n2_; (try clear hb); (try clear hb2); (try clear hk); (try clear hi); (try clear ho0); (try clear ho1)) | ((with_reducible refine gate_dst (N := 9) rfl ?_); refine box_event ?hg (N := 9) ?hd (cs := #[.int .i64 0, .int .i64 0, .slice none 0 0, .slice none 0 0]) (t := 24) ?hr ?_; (case hd => rfl); (case hg => rfl); (case hr => first | (go_simp; done) | (go_simp; rfl)); intro gb228 hg w8 hbox hb; have n0_ := Aside0.mk (Kd.R_below (by (with_reducible repeat (first | apply Kd.R_alloc | apply Kd.R_drewN | apply Kd.R_drew)); exact HO224.out) hb); have n1_ := Aside0.mk (Kd.R_below (by (with_reducible repeat (first | apply Kd.R_alloc | apply Kd.R_drewN | apply Kd.R_drew)); exact HO227.out) hb); have n2_ := Aside0.mk (below_step (by repeat (first | (with_reducible first | exact HB.out | apply below_alloc | apply pw_below_drewN | apply below_drew1) | exact HB.out)) hb); have n3_ := Aside0.mk (hbox); have n4_ := Aside0.mk ((by rw [hg]; exact (below_size (by repeat (first | (with_reducible first | exact HB.out | apply below_alloc | apply pw_below_drewN | apply below_drew1) | exact HB.out))) : w.heap.size ≤ gb228)); have n5_ := Aside0.mk ((by rw [hg]; exact (below_size (by repeat (first | (with_reducible first | exact HB.out | apply below_alloc | apply pw_below_drewN | apply below_drew1) | exact HB.out))) : w.heap.size ≤ gb228)); clear HO224; clear HO227; clear HB; have HO224 := n0_; have HO227 := n1_; have HB := n2_; have BK228 := n3_; have GW228 := n4_; have GE228 := n5_; clear n0_ n1_ n2_ n3_ n4_ n5_; clear hb hbox hg; have hcz9_0 : w8.cell? ⟨gb228, 0, none⟩ = some (.int .i64 0) := (blk_cell BK228.out 0).trans rfl; have hcz9_1 : w8.cell? ⟨gb228, 1, none⟩ = some (.int .i64 0) := (blk_cell BK228.out 1).trans rfl; have hcz9_2 : w8.cell? ⟨gb228, 2, none⟩ = some (.slice none 0 0) := (blk_cell BK228.out 2).trans rfl; have hcz9_3 : w8.cell? ⟨gb228, 3, none⟩ = some (.slice none 0 0) := (blk_cell BK228.out 3).trans rfl; have hfz9_0 := blk_frozen BK228.out 0; have hfz9_1 := blk_frozen BK228.out 1; have hfz9_2 := blk_frozen BK228.out 2; have hfz9_3 := blk_frozen BK228.out 3; obtain ⟨Ao10, co10, eo10⟩ := Kd.R_slice HO224.out; subst eo10; obtain ⟨Ao11, co11, eo11⟩ := Kd.R_slice HO227.out; subst eo11))
 (try simp only [Act.put, List.setIfInBounds_toArray, List.set_cons_zero, List.set_cons_succ])
 go_cut [1] (fun v1 wc => ∃ (kq : Nat) (x1_5 : ByteArray), v1 = .string x1_5 ∧ Aside0 (clinkerlaw03_TagMade.j0 kq x1_5 a2 a3 t220 t221 t222 t225 = some r) ∧ Aside0 (kq ≤ k) ∧ Aside0 (Kd.R (Kd.int .i64) 3 wc w.heap.size (fun k_ => some k_ ≠ ((.slice Ao11 t225.length co11) : Value).ownBlock) (.slice Ao10 t222.length co10) t222) ∧ Aside0 (Kd.R (Kd.int .i64) 3 wc w.heap.size (fun k_ => some k_ ≠ ((.slice Ao10 t222.length co10) : Value).ownBlock) (.slice Ao11 t225.length co11) t225) ∧ Aside0 (wc.heap[gb228]? = some (.cells #[.int .i64 t220, .int .i64 t221, (.slice Ao10 t222.length co10), (.slice Ao11 t225.length co11)] 24 (0, 0))) ∧ Aside0 (Below w.heap.size w wc))
 case first =>
  have H := HC6.out
  clear HC6
  by_cases c12 : (a1.size : Int) > 20
  ·
   rw [if_pos c12] at H
   have c12b0 : decide (20 < (a1.size : Int)) = true := decide_eq_true c12
   have c12b1 : decide (20 < a1.size) = true := decide_eq_true (by omega)
   clear c12
   (first | rw [c12b0] | (simp only [i64_w, i32_w]; rw [c12b0]) | skip)
   by_cases c13 : 0 ≤ 20
   ·
    rw [if_pos c13] at H
    have c13b0 := eq_true c13
    have c13b1 : decide (0 ≤ 20) = true := decide_eq_true c13
    clear c13
    by_cases c14 : 20 ≤ (a1.size : Int)
    ·
     rw [if_pos c14] at H
     have c14b0 := eq_true c14
     have c14b1 : decide (20 ≤ (a1.size : Int)) = true := decide_eq_true c14
     clear c14
     have H' := Aside0.mk H
     clear H
     go_wp2
     go_meet
     case rel => exact ⟨_, (a1.extract 0 20), (by first | rfl | (simp; done) | (simp [*]; done)), H', ⟨by first | omega | exact Nat.le_refl _⟩, ⟨by (with_reducible repeat (first | apply Kd.R_alloc | apply Kd.R_drewN | apply Kd.R_drew)); exact Kd.R_mono (Kd.R_far (p := ⟨gb228, 3, none⟩) (Kd.R_far (p := ⟨gb228, 2, none⟩) (Kd.R_far (p := ⟨gb228, 1, none⟩) (Kd.R_far (p := ⟨gb228, 0, none⟩) (Kd.R_types HO224.out BK228.out (by decide)) (fun _ hk => hk.2) (.int .i64 t220)) (fun _ hk => hk.2) (.int .i64 t221)) (fun _ hk => hk.2) (.slice Ao10 t222.length co10)) (fun _ hk => hk.2) (.slice Ao11 t225.length co11)) (fun _ hk => hk.1)⟩, ⟨by (with_reducible repeat (first | apply Kd.R_alloc | apply Kd.R_drewN | apply Kd.R_drew)); exact Kd.R_mono (Kd.R_far (p := ⟨gb228, 3, none⟩) (Kd.R_far (p := ⟨gb228, 2, none⟩) (Kd.R_far (p := ⟨gb228, 1, none⟩) (Kd.R_far (p := ⟨gb228, 0, none⟩) (Kd.R_types HO227.out BK228.out (by decide)) (fun _ hk => hk.2) (.int .i64 t220)) (fun _ hk => hk.2) (.int .i64 t221)) (fun _ hk => hk.2) (.slice Ao10 t222.length co10)) (fun _ hk => hk.2) (.slice Ao11 t225.length co11)) (fun _ hk => hk.1)⟩, ⟨by (with_reducible repeat (first | refine blk_drewN ?_ _ | refine blk_drew ?_ | refine blk_alloc ?_ _)); refine blk_put (cs := #[.int .i64 t220, .int .i64 t221, .slice Ao10 t222.length co10, .slice none 0 0]) ?_ 3 _ rfl; (with_reducible repeat (first | refine blk_drewN ?_ _ | refine blk_drew ?_ | refine blk_alloc ?_ _)); refine blk_put (cs := #[.int .i64 t220, .int .i64 t221, .slice none 0 0, .slice none 0 0]) ?_ 2 _ rfl; (with_reducible repeat (first | refine blk_drewN ?_ _ | refine blk_drew ?_ | refine blk_alloc ?_ _)); refine blk_put (cs := #[.int .i64 t220, .int .i64 0, .slice none 0 0, .slice none 0 0]) ?_ 1 _ rfl; (with_reducible repeat (first | refine blk_drewN ?_ _ | refine blk_drew ?_ | refine blk_alloc ?_ _)); refine blk_put (cs := #[.int .i64 0, .int .i64 0, .slice none 0 0, .slice none 0 0]) ?_ 0 _ rfl; (with_reducible repeat (first | refine blk_drewN ?_ _ | refine blk_drew ?_ | refine blk_alloc ?_ _)); exact BK228.out⟩, ⟨by repeat (first | (with_reducible first | exact HB.out | apply below_alloc | apply pw_below_drewN | apply below_drew1 | refine below_set ?_ GE228.out) | exact HB.out)⟩⟩
    ·
     rw [if_neg c14] at H
     exact absurd H (by simp)
   ·
    rw [if_neg c13] at H
    exact absurd H (by simp)
  ·
   rw [if_neg c12] at H
   have c12b0 : decide (20 < (a1.size : Int)) = false := decide_eq_false c12
   have c12b1 : decide (20 < a1.size) = false := decide_eq_false (by omega)
   clear c12
   (first | rw [c12b0] | (simp only [i64_w, i32_w]; rw [c12b0]) | skip)
   have H' := Aside0.mk H
   clear H
   go_wp2
   go_meet
   case rel => exact ⟨_, (a1), (by first | rfl | (simp; done) | (simp [*]; done)), H', ⟨by first | omega | exact Nat.le_refl _⟩, ⟨by (with_reducible repeat (first | apply Kd.R_alloc | apply Kd.R_drewN | apply Kd.R_drew)); exact Kd.R_mono (Kd.R_far (p := ⟨gb228, 3, none⟩) (Kd.R_far (p := ⟨gb228, 2, none⟩) (Kd.R_far (p := ⟨gb228, 1, none⟩) (Kd.R_far (p := ⟨gb228, 0, none⟩) (Kd.R_types HO224.out BK228.out (by decide)) (fun _ hk => hk.2) (.int .i64 t220)) (fun _ hk => hk.2) (.int .i64 t221)) (fun _ hk => hk.2) (.slice Ao10 t222.length co10)) (fun _ hk => hk.2) (.slice Ao11 t225.length co11)) (fun _ hk => hk.1)⟩, ⟨by (with_reducible repeat (first | apply Kd.R_alloc | apply Kd.R_drewN | apply Kd.R_drew)); exact Kd.R_mono (Kd.R_far (p := ⟨gb228, 3, none⟩) (Kd.R_far (p := ⟨gb228, 2, none⟩) (Kd.R_far (p := ⟨gb228, 1, none⟩) (Kd.R_far (p := ⟨gb228, 0, none⟩) (Kd.R_types HO227.out BK228.out (by decide)) (fun _ hk => hk.2) (.int .i64 t220)) (fun _ hk => hk.2) (.int .i64 t221)) (fun _ hk => hk.2) (.slice Ao10 t222.length co10)) (fun _ hk => hk.2) (.slice Ao11 t225.length co11)) (fun _ hk => hk.1)⟩, ⟨by (with_reducible repeat (first | refine blk_drewN ?_ _ | refine blk_drew ?_ | refine blk_alloc ?_ _)); refine blk_put (cs := #[.int .i64 t220, .int .i64 t221, .slice Ao10 t222.length co10, .slice none 0 0]) ?_ 3 _ rfl; (with_reducible repeat (first | refine blk_drewN ?_ _ | refine blk_drew ?_ | refine blk_alloc ?_ _)); refine blk_put (cs := #[.int .i64 t220, .int .i64 t221, .slice none 0 0, .slice none 0 0]) ?_ 2 _ rfl; (with_reducible repeat (first | refine blk_drewN ?_ _ | refine blk_drew ?_ | refine blk_alloc ?_ _)); refine blk_put (cs := #[.int .i64 t220, .int .i64 0, .slice none 0 0, .slice none 0 0]) ?_ 1 _ rfl; (with_reducible repeat (first | refine blk_drewN ?_ _ | refine blk_drew ?_ | refine blk_alloc ?_ _)); refine blk_put (cs := #[.int .i64 0, .int .i64 0, .slice none 0 0, .slice none 0 0]) ?_ 0 _ rfl; (with_reducible repeat (first | refine blk_drewN ?_ _ | refine blk_drew ?_ | refine blk_alloc ?_ _)); exact BK228.out⟩, ⟨by repeat (first | (with_reducible first | exact HB.out | apply below_alloc | apply pw_below_drewN | apply below_drew1 | refine below_set ?_ GE228.out) | exact HB.out)⟩⟩
 case rest =>
  clear HC6
  try clear c1
  try clear p2
  try clear c4
  try clear c12
  try clear c12b0
  try clear c12b1
  try clear c13
  try clear c13b0
  try clear c13b1
  try clear c14
  try clear c14b0
  try clear c14b1
  try clear hcz9_0
  try clear hcz9_1
  try clear hcz9_2
  try clear hcz9_3
  try clear hfz9_0
  try clear hfz9_1
  try clear hfz9_2
  try clear hfz9_3
  obtain ⟨kq, x1_5, rfl, HA, HJ5, HO_229002, HO_229003, BK228, HB⟩ := hcut
  cases kq with
  | zero => exact absurd HA.out (by simp [clinkerlaw03_TagMade.j0])
  | succ kj5 =>
   have H := HA.out
   clear HA
   simp only [clinkerlaw03_TagMade.j0] at H
   replace H := Option.bind_eq_some_iff.mp H
   obtain ⟨t229, A150, H⟩ := H
   replace H : (if t229 = true then (if (Int.tmod a2 5) = 0 then ((clinkerlaw03_awake.f).bind fun t230 => (if t230 = true then ((clinkerlaw03_same.f kj5 a3 t221 t222 t225 x1_5).bind fun t231 => (some t231)) else (some false))) else (if (Int.tmod a2 5) = 1 then ((clinkerlaw03_awake.f).bind fun t232 => (if t232 = true then ((clinkerlaw03_same.f kj5 t220 a3 t222 t225 x1_5).bind fun t233 => (some t233)) else (some false))) else (if (Int.tmod a2 5) = 2 then (if t222.length < 17592186044416 then ((clinkerlaw03_awake.f).bind fun t237 => (if t237 = true then ((clinkerlaw03_same.f kj5 t220 t221 (t222 ++ [a3]) t225 x1_5).bind fun t238 => (some t238)) else (some false))) else (none)) else (if (Int.tmod a2 5) = 3 then (if t225.length < 17592186044416 then ((clinkerlaw03_awake.f).bind fun t242 => (if t242 = true then ((clinkerlaw03_same.f kj5 t220 t221 t222 (t225 ++ [a3]) x1_5).bind fun t243 => (some t243)) else (some false))) else (none)) else (if 0 ≤ (wrap64 ((t222.length : Int) - 1)) then (if (wrap64 ((t222.length : Int) - 1)) ≤ (t222.length : Int) then ((clinkerlaw03_awake.f).bind fun t247 => (if t247 = true then ((clinkerlaw03_same.f kj5 t220 t221 (t222.take ((wrap64 ((t222.length : Int) - 1)) : Int).toNat) t225 x1_5).bind fun t248 => (some t248)) else (some false))) else (none)) else (none)))))) else (some false)) = some r := H
   have A15 := Aside0.mk A150
   clear A150
   by_cases c16 : t229 = true
   ·
    subst c16
    have H1 : (if (Int.tmod a2 5) = 0 then ((clinkerlaw03_awake.f).bind fun t230 => (if t230 = true then ((clinkerlaw03_same.f kj5 a3 t221 t222 t225 x1_5).bind fun t231 => (some t231)) else (some false))) else (if (Int.tmod a2 5) = 1 then ((clinkerlaw03_awake.f).bind fun t232 => (if t232 = true then ((clinkerlaw03_same.f kj5 t220 a3 t222 t225 x1_5).bind fun t233 => (some t233)) else (some false))) else (if (Int.tmod a2 5) = 2 then (if t222.length < 17592186044416 then ((clinkerlaw03_awake.f).bind fun t237 => (if t237 = true then ((clinkerlaw03_same.f kj5 t220 t221 (t222 ++ [a3]) t225 x1_5).bind fun t238 => (some t238)) else (some false))) else (none)) else (if (Int.tmod a2 5) = 3 then (if t225.length < 17592186044416 then ((clinkerlaw03_awake.f).bind fun t242 => (if t242 = true then ((clinkerlaw03_same.f kj5 t220 t221 t222 (t225 ++ [a3]) x1_5).bind fun t243 => (some t243)) else (some false))) else (none)) else (if 0 ≤ (wrap64 ((t222.length : Int) - 1)) then (if (wrap64 ((t222.length : Int) - 1)) ≤ (t222.length : Int) then ((clinkerlaw03_awake.f).bind fun t247 => (if t247 = true then ((clinkerlaw03_same.f kj5 t220 t221 (t222.take ((wrap64 ((t222.length : Int) - 1)) : Int).toNat) t225 x1_5).bind fun t248 => (some t248)) else (some false))) else (none)) else (none)))))) = some r := by rw [if_pos rfl] at H; exact H
    clear H
    have H := H1
    clear H1
    by_cases c17 : (Int.tmod a2 5) = 0
    ·
     rw [if_pos c17] at H
     have c17b0 : ((Int.tmod a2 5) == 0) = true := beq_iff_eq.mpr c17
     have c17b1 : ((Int.tmod a2 5) != 0) = false := bne_eq_false_iff_eq.mpr c17
     clear c17
     replace H := Option.bind_eq_some_iff.mp H
     obtain ⟨t230, A180, H⟩ := H
     replace H : (if t230 = true then ((clinkerlaw03_same.f kj5 a3 t221 t222 t225 x1_5).bind fun t231 => (some t231)) else (some false)) = some r := H
     have A18 := Aside0.mk A180
     clear A180
     by_cases c19 : t230 = true
     ·
      subst c19
      have H1 : ((clinkerlaw03_same.f kj5 a3 t221 t222 t225 x1_5).bind fun t231 => (some t231)) = some r := by rw [if_pos rfl] at H; exact H
      clear H
      have H := H1
      clear H1
      replace H := Option.bind_eq_some_iff.mp H
      obtain ⟨t231, A200, H⟩ := H
      replace H : (some t231) = some r := H
      have A20 := Aside0.mk A200
      clear A200
      obtain rfl := Option.some.inj H
      have hcz21_0 : wc.cell? ⟨gb228, 0, none⟩ = some (.int .i64 t220) := (blk_cell BK228.out 0).trans rfl
      have hcz21_1 : wc.cell? ⟨gb228, 1, none⟩ = some (.int .i64 t221) := (blk_cell BK228.out 1).trans rfl
      have hcz21_2 : wc.cell? ⟨gb228, 2, none⟩ = some (.slice Ao10 t222.length co10) := (blk_cell BK228.out 2).trans rfl
      have hcz21_3 : wc.cell? ⟨gb228, 3, none⟩ = some (.slice Ao11 t225.length co11) := (blk_cell BK228.out 3).trans rfl
      have hfz21_0 := blk_frozen BK228.out 0
      have hfz21_1 := blk_frozen BK228.out 1
      have hfz21_2 := blk_frozen BK228.out 2
      have hfz21_3 := blk_frozen BK228.out 3
      go_wp2_with (first | ((with_reducible refine gate_callee (f := 13) rfl ?_); refine goesL_ (some 19) rfl rfl Try.func13 (by kernel_rfl) rfl #[.agg #[.int .i64 t220, .int .i64 t221, .slice Ao10 t222.length co10, .slice Ao11 t225.length co11], .string x1_5] rfl (by (try simp only [List.map_toArray, List.map_cons, List.map_nil]); first | done | rfl | (simp only [List.length_drop, List.length_take]; rfl)) ?_; (with_reducible refine (clinkerlaw03_same.calls kj5 t220 t221 _ _ t222 _ _ t225 x1_5 true _ ?side1 ?side2 ?side3 ?side4 A15.out).mono ?_); (case side1 => repeat (first | exact (Kd.R_reads' HO_229002.out).2.2 | (with_reducible refine Kd.C_alloc ?_ _) | (with_reducible refine Kd.C_drewN ?_ _) | (with_reducible refine Kd.C_drew ?_))); (case side2 => exact (Kd.R_reads' HO_229002.out).2.1); (case side3 => repeat (first | exact (Kd.R_reads' HO_229003.out).2.2 | (with_reducible refine Kd.C_alloc ?_ _) | (with_reducible refine Kd.C_drewN ?_ _) | (with_reducible refine Kd.C_drew ?_))); (case side4 => exact (Kd.R_reads' HO_229003.out).2.1); rintro e w22 ⟨rfl, hb⟩; refine ⟨_, rfl, ?_⟩; have n0_ := Aside0.mk (Kd.R_below (by (with_reducible repeat (first | apply Kd.R_alloc | apply Kd.R_drewN | apply Kd.R_drew)); exact HO_229002.out) hb); have n1_ := Aside0.mk (Kd.R_below (by (with_reducible repeat (first | apply Kd.R_alloc | apply Kd.R_drewN | apply Kd.R_drew)); exact HO_229003.out) hb); have n2_ := Aside0.mk (blk_below (g := gb228) (o := .cells #[.int .i64 t220, .int .i64 t221, .slice Ao10 t222.length co10, .slice Ao11 t225.length co11] 24 (0, 0)) (by (with_reducible repeat (first | refine blk_drewN ?_ _ | refine blk_drew ?_ | refine blk_alloc ?_ _)); exact BK228.out) hb); have n3_ := Aside0.mk (below_step (by repeat (first | (with_reducible first | exact HB.out | apply below_alloc | apply pw_below_drewN | apply below_drew1 | refine below_set ?_ GE228.out) | exact HB.out)) hb); clear HO_229002; clear HO_229003; clear BK228; clear HB; have HO_229002 := n0_; have HO_229003 := n1_; have BK228 := n2_; have HB := n3_; clear n0_ n1_ n2_ n3_; (try clear hb); (try clear hb2); (try clear hk); (try clear hi); have hcz23_0 : w22.cell? ⟨gb228, 0, none⟩ = some (.int .i64 t220) := (blk_cell BK228.out 0).trans rfl; have hcz23_1 : w22.cell? ⟨gb228, 1, none⟩ = some (.int .i64 t221) := (blk_cell BK228.out 1).trans rfl; have hcz23_2 : w22.cell? ⟨gb228, 2, none⟩ = some (.slice Ao10 t222.length co10) := (blk_cell BK228.out 2).trans rfl; have hcz23_3 : w22.cell? ⟨gb228, 3, none⟩ = some (.slice Ao11 t225.length co11) := (blk_cell BK228.out 3).trans rfl; have hfz23_0 := blk_frozen BK228.out 0; have hfz23_1 := blk_frozen BK228.out 1; have hfz23_2 := blk_frozen BK228.out 2; have hfz23_3 := blk_frozen BK228.out 3) | ((with_reducible refine gate_callee (f := 11) rfl ?_); refine goesL_ (some 55) rfl rfl Try.func11 (by kernel_rfl) rfl #[] rfl (by (try simp only [List.map_toArray, List.map_cons, List.map_nil]); first | done | rfl | (simp only [List.length_drop, List.length_take]; rfl)) ?_; (with_reducible refine (clinkerlaw03_awake.calls  true _ A18.out).mono ?_); rintro e w24 ⟨rfl, hb⟩; refine ⟨_, rfl, ?_⟩; have n0_ := Aside0.mk (Kd.R_below (by (with_reducible repeat (first | apply Kd.R_alloc | apply Kd.R_drewN | apply Kd.R_drew)); exact (Kd.R_mono (Kd.R_far (p := ⟨gb228, 0, none⟩) (Kd.R_types HO_229002.out BK228.out (by decide)) (fun _ hk => hk.2) (.int .i64 a3)) (fun _ h_ => h_.1))) hb); have n1_ := Aside0.mk (Kd.R_below (by (with_reducible repeat (first | apply Kd.R_alloc | apply Kd.R_drewN | apply Kd.R_drew)); exact (Kd.R_mono (Kd.R_far (p := ⟨gb228, 0, none⟩) (Kd.R_types HO_229003.out BK228.out (by decide)) (fun _ hk => hk.2) (.int .i64 a3)) (fun _ h_ => h_.1))) hb); have n2_ := Aside0.mk (blk_below (g := gb228) (o := .cells #[.int .i64 a3, .int .i64 t221, .slice Ao10 t222.length co10, .slice Ao11 t225.length co11] 24 (0, 0)) (by (with_reducible repeat (first | refine blk_drewN ?_ _ | refine blk_drew ?_ | refine blk_alloc ?_ _)); refine blk_put (cs := #[.int .i64 t220, .int .i64 t221, .slice Ao10 t222.length co10, .slice Ao11 t225.length co11]) ?_ 0 _ rfl; (with_reducible repeat (first | refine blk_drewN ?_ _ | refine blk_drew ?_ | refine blk_alloc ?_ _)); exact BK228.out) hb); have n3_ := Aside0.mk (below_step (by repeat (first | (with_reducible first | exact HB.out | apply below_alloc | apply pw_below_drewN | apply below_drew1 | refine below_set ?_ GE228.out) | exact HB.out)) hb); clear HO_229002; clear HO_229003; clear BK228; clear HB; have HO_229002 := n0_; have HO_229003 := n1_; have BK228 := n2_; have HB := n3_; clear n0_ n1_ n2_ n3_; (try clear hb); (try clear hb2); (try clear hk); (try clear hi); have hcz25_0 : w24.cell? ⟨gb228, 0, none⟩ = some (.int .i64 a3) := (blk_cell BK228.out 0).trans rfl; have hcz25_1 : w24.cell? ⟨gb228, 1, none⟩ = some (.int .i64 t221) := (blk_cell BK228.out 1).trans rfl; have hcz25_2 : w24.cell? ⟨gb228, 2, none⟩ = some (.slice Ao10 t222.length co10) := (blk_cell BK228.out 2).trans rfl; have hcz25_3 : w24.cell? ⟨gb228, 3, none⟩ = some (.slice Ao11 t225.length co11) := (blk_cell BK228.out 3).trans rfl; have hfz25_0 := blk_frozen BK228.out 0; have hfz25_1 := blk_frozen BK228.out 1; have hfz25_2 := blk_frozen BK228.out 2; have hfz25_3 := blk_frozen BK228.out 3) | (go_at_call 13; (with_reducible refine (clinkerlaw03_same.calls kj5 a3 t221 _ _ t222 _ _ t225 x1_5 t231 _ ?side1 ?side2 ?side3 ?side4 A20.out).mono ?_); (case side1 => repeat (first | exact (Kd.R_reads' HO_229002.out).2.2 | (with_reducible refine Kd.C_alloc ?_ _) | (with_reducible refine Kd.C_drewN ?_ _) | (with_reducible refine Kd.C_drew ?_))); (case side2 => exact (Kd.R_reads' HO_229002.out).2.1); (case side3 => repeat (first | exact (Kd.R_reads' HO_229003.out).2.2 | (with_reducible refine Kd.C_alloc ?_ _) | (with_reducible refine Kd.C_drewN ?_ _) | (with_reducible refine Kd.C_drew ?_))); (case side4 => exact (Kd.R_reads' HO_229003.out).2.1); rintro e w26 ⟨rfl, hb⟩; have n0_ := Aside0.mk (Kd.R_below (by (with_reducible repeat (first | apply Kd.R_alloc | apply Kd.R_drewN | apply Kd.R_drew)); exact HO_229002.out) hb); have n1_ := Aside0.mk (Kd.R_below (by (with_reducible repeat (first | apply Kd.R_alloc | apply Kd.R_drewN | apply Kd.R_drew)); exact HO_229003.out) hb); have n2_ := Aside0.mk (blk_below (g := gb228) (o := .cells #[.int .i64 a3, .int .i64 t221, .slice Ao10 t222.length co10, .slice Ao11 t225.length co11] 24 (0, 0)) (by (with_reducible repeat (first | refine blk_drewN ?_ _ | refine blk_drew ?_ | refine blk_alloc ?_ _)); exact BK228.out) hb); have n3_ := Aside0.mk (below_step (by repeat (first | (with_reducible first | exact HB.out | apply below_alloc | apply pw_below_drewN | apply below_drew1 | refine below_set ?_ GE228.out) | exact HB.out)) hb); clear HO_229002; clear HO_229003; clear BK228; clear HB; have HO_229002 := n0_; have HO_229003 := n1_; have BK228 := n2_; have HB := n3_; clear n0_ n1_ n2_ n3_; (try clear hb); (try clear hb2); (try clear hk); (try clear hi)))
      go_ret
      exact ⟨by first | rfl | (simp [errW_none, errW_some] <;> rfl) | (simp [*, errW_none, errW_some] <;> rfl), by repeat (first | (with_reducible first | exact HB.out | apply below_alloc | apply pw_below_drewN | apply below_drew1 | refine below_set ?_ GE228.out) | exact HB.out)⟩
     ·
      replace c19 := Bool.eq_false_iff.mpr c19
      subst c19
      have H1 : (some false) = some r := by rw [if_neg (show ¬ (false = true) by decide)] at H; exact H
      clear H
      have H := H1
      clear H1
      obtain rfl := Option.some.inj H
      have hcz27_0 : wc.cell? ⟨gb228, 0, none⟩ = some (.int .i64 t220) := (blk_cell BK228.out 0).trans rfl
      have hcz27_1 : wc.cell? ⟨gb228, 1, none⟩ = some (.int .i64 t221) := (blk_cell BK228.out 1).trans rfl
      have hcz27_2 : wc.cell? ⟨gb228, 2, none⟩ = some (.slice Ao10 t222.length co10) := (blk_cell BK228.out 2).trans rfl
      have hcz27_3 : wc.cell? ⟨gb228, 3, none⟩ = some (.slice Ao11 t225.length co11) := (blk_cell BK228.out 3).trans rfl
      have hfz27_0 := blk_frozen BK228.out 0
      have hfz27_1 := blk_frozen BK228.out 1
      have hfz27_2 := blk_frozen BK228.out 2
      have hfz27_3 := blk_frozen BK228.out 3
      go_wp2_with (first | ((with_reducible refine gate_callee (f := 13) rfl ?_); refine goesL_ (some 19) rfl rfl Try.func13 (by kernel_rfl) rfl #[.agg #[.int .i64 t220, .int .i64 t221, .slice Ao10 t222.length co10, .slice Ao11 t225.length co11], .string x1_5] rfl (by (try simp only [List.map_toArray, List.map_cons, List.map_nil]); first | done | rfl | (simp only [List.length_drop, List.length_take]; rfl)) ?_; (with_reducible refine (clinkerlaw03_same.calls kj5 t220 t221 _ _ t222 _ _ t225 x1_5 true _ ?side1 ?side2 ?side3 ?side4 A15.out).mono ?_); (case side1 => repeat (first | exact (Kd.R_reads' HO_229002.out).2.2 | (with_reducible refine Kd.C_alloc ?_ _) | (with_reducible refine Kd.C_drewN ?_ _) | (with_reducible refine Kd.C_drew ?_))); (case side2 => exact (Kd.R_reads' HO_229002.out).2.1); (case side3 => repeat (first | exact (Kd.R_reads' HO_229003.out).2.2 | (with_reducible refine Kd.C_alloc ?_ _) | (with_reducible refine Kd.C_drewN ?_ _) | (with_reducible refine Kd.C_drew ?_))); (case side4 => exact (Kd.R_reads' HO_229003.out).2.1); rintro e w28 ⟨rfl, hb⟩; refine ⟨_, rfl, ?_⟩; have n0_ := Aside0.mk (Kd.R_below (by (with_reducible repeat (first | apply Kd.R_alloc | apply Kd.R_drewN | apply Kd.R_drew)); exact HO_229002.out) hb); have n1_ := Aside0.mk (Kd.R_below (by (with_reducible repeat (first | apply Kd.R_alloc | apply Kd.R_drewN | apply Kd.R_drew)); exact HO_229003.out) hb); have n2_ := Aside0.mk (blk_below (g := gb228) (o := .cells #[.int .i64 t220, .int .i64 t221, .slice Ao10 t222.length co10, .slice Ao11 t225.length co11] 24 (0, 0)) (by (with_reducible repeat (first | refine blk_drewN ?_ _ | refine blk_drew ?_ | refine blk_alloc ?_ _)); exact BK228.out) hb); have n3_ := Aside0.mk (below_step (by repeat (first | (with_reducible first | exact HB.out | apply below_alloc | apply pw_below_drewN | apply below_drew1 | refine below_set ?_ GE228.out) | exact HB.out)) hb); clear HO_229002; clear HO_229003; clear BK228; clear HB; have HO_229002 := n0_; have HO_229003 := n1_; have BK228 := n2_; have HB := n3_; clear n0_ n1_ n2_ n3_; (try clear hb); (try clear hb2); (try clear hk); (try clear hi); have hcz29_0 : w28.cell? ⟨gb228, 0, none⟩ = some (.int .i64 t220) := (blk_cell BK228.out 0).trans rfl; have hcz29_1 : w28.cell? ⟨gb228, 1, none⟩ = some (.int .i64 t221) := (blk_cell BK228.out 1).trans rfl; have hcz29_2 : w28.cell? ⟨gb228, 2, none⟩ = some (.slice Ao10 t222.length co10) := (blk_cell BK228.out 2).trans rfl; have hcz29_3 : w28.cell? ⟨gb228, 3, none⟩ = some (.slice Ao11 t225.length co11) := (blk_cell BK228.out 3).trans rfl; have hfz29_0 := blk_frozen BK228.out 0; have hfz29_1 := blk_frozen BK228.out 1; have hfz29_2 := blk_frozen BK228.out 2; have hfz29_3 := blk_frozen BK228.out 3) | ((with_reducible refine gate_callee (f := 11) rfl ?_); refine goesL_ (some 55) rfl rfl Try.func11 (by kernel_rfl) rfl #[] rfl (by (try simp only [List.map_toArray, List.map_cons, List.map_nil]); first | done | rfl | (simp only [List.length_drop, List.length_take]; rfl)) ?_; (with_reducible refine (clinkerlaw03_awake.calls  false _ A18.out).mono ?_); rintro e w30 ⟨rfl, hb⟩; refine ⟨_, rfl, ?_⟩; have n0_ := Aside0.mk (Kd.R_below (by (with_reducible repeat (first | apply Kd.R_alloc | apply Kd.R_drewN | apply Kd.R_drew)); exact (Kd.R_mono (Kd.R_far (p := ⟨gb228, 0, none⟩) (Kd.R_types HO_229002.out BK228.out (by decide)) (fun _ hk => hk.2) (.int .i64 a3)) (fun _ h_ => h_.1))) hb); have n1_ := Aside0.mk (Kd.R_below (by (with_reducible repeat (first | apply Kd.R_alloc | apply Kd.R_drewN | apply Kd.R_drew)); exact (Kd.R_mono (Kd.R_far (p := ⟨gb228, 0, none⟩) (Kd.R_types HO_229003.out BK228.out (by decide)) (fun _ hk => hk.2) (.int .i64 a3)) (fun _ h_ => h_.1))) hb); have n2_ := Aside0.mk (blk_below (g := gb228) (o := .cells #[.int .i64 a3, .int .i64 t221, .slice Ao10 t222.length co10, .slice Ao11 t225.length co11] 24 (0, 0)) (by (with_reducible repeat (first | refine blk_drewN ?_ _ | refine blk_drew ?_ | refine blk_alloc ?_ _)); refine blk_put (cs := #[.int .i64 t220, .int .i64 t221, .slice Ao10 t222.length co10, .slice Ao11 t225.length co11]) ?_ 0 _ rfl; (with_reducible repeat (first | refine blk_drewN ?_ _ | refine blk_drew ?_ | refine blk_alloc ?_ _)); exact BK228.out) hb); have n3_ := Aside0.mk (below_step (by repeat (first | (with_reducible first | exact HB.out | apply below_alloc | apply pw_below_drewN | apply below_drew1 | refine below_set ?_ GE228.out) | exact HB.out)) hb); clear HO_229002; clear HO_229003; clear BK228; clear HB; have HO_229002 := n0_; have HO_229003 := n1_; have BK228 := n2_; have HB := n3_; clear n0_ n1_ n2_ n3_; (try clear hb); (try clear hb2); (try clear hk); (try clear hi)))
      go_ret
      exact ⟨by first | rfl | (simp [errW_none, errW_some] <;> rfl) | (simp [*, errW_none, errW_some] <;> rfl), by repeat (first | (with_reducible first | exact HB.out | apply below_alloc | apply pw_below_drewN | apply below_drew1 | refine below_set ?_ GE228.out) | exact HB.out)⟩
    ·
     rw [if_neg c17] at H
     have c17b0 : ((Int.tmod a2 5) == 0) = false := beq_eq_false_iff_ne.mpr c17
     have c17b1 : ((Int.tmod a2 5) != 0) = true := bne_iff_ne.mpr c17
     by_cases c31 : (Int.tmod a2 5) = 1
     ·
      rw [if_pos c31] at H
      have c31b0 : ((Int.tmod a2 5) == 1) = true := beq_iff_eq.mpr c31
      have c31b1 : ((Int.tmod a2 5) != 1) = false := bne_eq_false_iff_eq.mpr c31
      clear c31
      replace H := Option.bind_eq_some_iff.mp H
      obtain ⟨t232, A320, H⟩ := H
      replace H : (if t232 = true then ((clinkerlaw03_same.f kj5 t220 a3 t222 t225 x1_5).bind fun t233 => (some t233)) else (some false)) = some r := H
      have A32 := Aside0.mk A320
      clear A320
      by_cases c33 : t232 = true
      ·
       subst c33
       have H1 : ((clinkerlaw03_same.f kj5 t220 a3 t222 t225 x1_5).bind fun t233 => (some t233)) = some r := by rw [if_pos rfl] at H; exact H
       clear H
       have H := H1
       clear H1
       replace H := Option.bind_eq_some_iff.mp H
       obtain ⟨t233, A340, H⟩ := H
       replace H : (some t233) = some r := H
       have A34 := Aside0.mk A340
       clear A340
       obtain rfl := Option.some.inj H
       have hcz35_0 : wc.cell? ⟨gb228, 0, none⟩ = some (.int .i64 t220) := (blk_cell BK228.out 0).trans rfl
       have hcz35_1 : wc.cell? ⟨gb228, 1, none⟩ = some (.int .i64 t221) := (blk_cell BK228.out 1).trans rfl
       have hcz35_2 : wc.cell? ⟨gb228, 2, none⟩ = some (.slice Ao10 t222.length co10) := (blk_cell BK228.out 2).trans rfl
       have hcz35_3 : wc.cell? ⟨gb228, 3, none⟩ = some (.slice Ao11 t225.length co11) := (blk_cell BK228.out 3).trans rfl
       have hfz35_0 := blk_frozen BK228.out 0
       have hfz35_1 := blk_frozen BK228.out 1
       have hfz35_2 := blk_frozen BK228.out 2
       have hfz35_3 := blk_frozen BK228.out 3
       go_wp2_with (first | ((with_reducible refine gate_callee (f := 13) rfl ?_); refine goesL_ (some 19) rfl rfl Try.func13 (by kernel_rfl) rfl #[.agg #[.int .i64 t220, .int .i64 t221, .slice Ao10 t222.length co10, .slice Ao11 t225.length co11], .string x1_5] rfl (by (try simp only [List.map_toArray, List.map_cons, List.map_nil]); first | done | rfl | (simp only [List.length_drop, List.length_take]; rfl)) ?_; (with_reducible refine (clinkerlaw03_same.calls kj5 t220 t221 _ _ t222 _ _ t225 x1_5 true _ ?side1 ?side2 ?side3 ?side4 A15.out).mono ?_); (case side1 => repeat (first | exact (Kd.R_reads' HO_229002.out).2.2 | (with_reducible refine Kd.C_alloc ?_ _) | (with_reducible refine Kd.C_drewN ?_ _) | (with_reducible refine Kd.C_drew ?_))); (case side2 => exact (Kd.R_reads' HO_229002.out).2.1); (case side3 => repeat (first | exact (Kd.R_reads' HO_229003.out).2.2 | (with_reducible refine Kd.C_alloc ?_ _) | (with_reducible refine Kd.C_drewN ?_ _) | (with_reducible refine Kd.C_drew ?_))); (case side4 => exact (Kd.R_reads' HO_229003.out).2.1); rintro e w36 ⟨rfl, hb⟩; refine ⟨_, rfl, ?_⟩; have n0_ := Aside0.mk (Kd.R_below (by (with_reducible repeat (first | apply Kd.R_alloc | apply Kd.R_drewN | apply Kd.R_drew)); exact HO_229002.out) hb); have n1_ := Aside0.mk (Kd.R_below (by (with_reducible repeat (first | apply Kd.R_alloc | apply Kd.R_drewN | apply Kd.R_drew)); exact HO_229003.out) hb); have n2_ := Aside0.mk (blk_below (g := gb228) (o := .cells #[.int .i64 t220, .int .i64 t221, .slice Ao10 t222.length co10, .slice Ao11 t225.length co11] 24 (0, 0)) (by (with_reducible repeat (first | refine blk_drewN ?_ _ | refine blk_drew ?_ | refine blk_alloc ?_ _)); exact BK228.out) hb); have n3_ := Aside0.mk (below_step (by repeat (first | (with_reducible first | exact HB.out | apply below_alloc | apply pw_below_drewN | apply below_drew1 | refine below_set ?_ GE228.out) | exact HB.out)) hb); clear HO_229002; clear HO_229003; clear BK228; clear HB; have HO_229002 := n0_; have HO_229003 := n1_; have BK228 := n2_; have HB := n3_; clear n0_ n1_ n2_ n3_; (try clear hb); (try clear hb2); (try clear hk); (try clear hi); have hcz37_0 : w36.cell? ⟨gb228, 0, none⟩ = some (.int .i64 t220) := (blk_cell BK228.out 0).trans rfl; have hcz37_1 : w36.cell? ⟨gb228, 1, none⟩ = some (.int .i64 t221) := (blk_cell BK228.out 1).trans rfl; have hcz37_2 : w36.cell? ⟨gb228, 2, none⟩ = some (.slice Ao10 t222.length co10) := (blk_cell BK228.out 2).trans rfl; have hcz37_3 : w36.cell? ⟨gb228, 3, none⟩ = some (.slice Ao11 t225.length co11) := (blk_cell BK228.out 3).trans rfl; have hfz37_0 := blk_frozen BK228.out 0; have hfz37_1 := blk_frozen BK228.out 1; have hfz37_2 := blk_frozen BK228.out 2; have hfz37_3 := blk_frozen BK228.out 3) | ((with_reducible refine gate_callee (f := 11) rfl ?_); refine goesL_ (some 55) rfl rfl Try.func11 (by kernel_rfl) rfl #[] rfl (by (try simp only [List.map_toArray, List.map_cons, List.map_nil]); first | done | rfl | (simp only [List.length_drop, List.length_take]; rfl)) ?_; (with_reducible refine (clinkerlaw03_awake.calls  true _ A32.out).mono ?_); rintro e w38 ⟨rfl, hb⟩; refine ⟨_, rfl, ?_⟩; have n0_ := Aside0.mk (Kd.R_below (by (with_reducible repeat (first | apply Kd.R_alloc | apply Kd.R_drewN | apply Kd.R_drew)); exact (Kd.R_mono (Kd.R_far (p := ⟨gb228, 1, none⟩) (Kd.R_types HO_229002.out BK228.out (by decide)) (fun _ hk => hk.2) (.int .i64 a3)) (fun _ h_ => h_.1))) hb); have n1_ := Aside0.mk (Kd.R_below (by (with_reducible repeat (first | apply Kd.R_alloc | apply Kd.R_drewN | apply Kd.R_drew)); exact (Kd.R_mono (Kd.R_far (p := ⟨gb228, 1, none⟩) (Kd.R_types HO_229003.out BK228.out (by decide)) (fun _ hk => hk.2) (.int .i64 a3)) (fun _ h_ => h_.1))) hb); have n2_ := Aside0.mk (blk_below (g := gb228) (o := .cells #[.int .i64 t220, .int .i64 a3, .slice Ao10 t222.length co10, .slice Ao11 t225.length co11] 24 (0, 0)) (by (with_reducible repeat (first | refine blk_drewN ?_ _ | refine blk_drew ?_ | refine blk_alloc ?_ _)); refine blk_put (cs := #[.int .i64 t220, .int .i64 t221, .slice Ao10 t222.length co10, .slice Ao11 t225.length co11]) ?_ 1 _ rfl; (with_reducible repeat (first | refine blk_drewN ?_ _ | refine blk_drew ?_ | refine blk_alloc ?_ _)); exact BK228.out) hb); have n3_ := Aside0.mk (below_step (by repeat (first | (with_reducible first | exact HB.out | apply below_alloc | apply pw_below_drewN | apply below_drew1 | refine below_set ?_ GE228.out) | exact HB.out)) hb); clear HO_229002; clear HO_229003; clear BK228; clear HB; have HO_229002 := n0_; have HO_229003 := n1_; have BK228 := n2_; have HB := n3_; clear n0_ n1_ n2_ n3_; (try clear hb); (try clear hb2); (try clear hk); (try clear hi); have hcz39_0 : w38.cell? ⟨gb228, 0, none⟩ = some (.int .i64 t220) := (blk_cell BK228.out 0).trans rfl; have hcz39_1 : w38.cell? ⟨gb228, 1, none⟩ = some (.int .i64 a3) := (blk_cell BK228.out 1).trans rfl; have hcz39_2 : w38.cell? ⟨gb228, 2, none⟩ = some (.slice Ao10 t222.length co10) := (blk_cell BK228.out 2).trans rfl; have hcz39_3 : w38.cell? ⟨gb228, 3, none⟩ = some (.slice Ao11 t225.length co11) := (blk_cell BK228.out 3).trans rfl; have hfz39_0 := blk_frozen BK228.out 0; have hfz39_1 := blk_frozen BK228.out 1; have hfz39_2 := blk_frozen BK228.out 2; have hfz39_3 := blk_frozen BK228.out 3) | (go_at_call 13; (with_reducible refine (clinkerlaw03_same.calls kj5 t220 a3 _ _ t222 _ _ t225 x1_5 t233 _ ?side1 ?side2 ?side3 ?side4 A34.out).mono ?_); (case side1 => repeat (first | exact (Kd.R_reads' HO_229002.out).2.2 | (with_reducible refine Kd.C_alloc ?_ _) | (with_reducible refine Kd.C_drewN ?_ _) | (with_reducible refine Kd.C_drew ?_))); (case side2 => exact (Kd.R_reads' HO_229002.out).2.1); (case side3 => repeat (first | exact (Kd.R_reads' HO_229003.out).2.2 | (with_reducible refine Kd.C_alloc ?_ _) | (with_reducible refine Kd.C_drewN ?_ _) | (with_reducible refine Kd.C_drew ?_))); (case side4 => exact (Kd.R_reads' HO_229003.out).2.1); rintro e w40 ⟨rfl, hb⟩; have n0_ := Aside0.mk (Kd.R_below (by (with_reducible repeat (first | apply Kd.R_alloc | apply Kd.R_drewN | apply Kd.R_drew)); exact HO_229002.out) hb); have n1_ := Aside0.mk (Kd.R_below (by (with_reducible repeat (first | apply Kd.R_alloc | apply Kd.R_drewN | apply Kd.R_drew)); exact HO_229003.out) hb); have n2_ := Aside0.mk (blk_below (g := gb228) (o := .cells #[.int .i64 t220, .int .i64 a3, .slice Ao10 t222.length co10, .slice Ao11 t225.length co11] 24 (0, 0)) (by (with_reducible repeat (first | refine blk_drewN ?_ _ | refine blk_drew ?_ | refine blk_alloc ?_ _)); exact BK228.out) hb); have n3_ := Aside0.mk (below_step (by repeat (first | (with_reducible first | exact HB.out | apply below_alloc | apply pw_below_drewN | apply below_drew1 | refine below_set ?_ GE228.out) | exact HB.out)) hb); clear HO_229002; clear HO_229003; clear BK228; clear HB; have HO_229002 := n0_; have HO_229003 := n1_; have BK228 := n2_; have HB := n3_; clear n0_ n1_ n2_ n3_; (try clear hb); (try clear hb2); (try clear hk); (try clear hi)))
       go_ret
       exact ⟨by first | rfl | (simp [errW_none, errW_some] <;> rfl) | (simp [*, errW_none, errW_some] <;> rfl), by repeat (first | (with_reducible first | exact HB.out | apply below_alloc | apply pw_below_drewN | apply below_drew1 | refine below_set ?_ GE228.out) | exact HB.out)⟩
      ·
       replace c33 := Bool.eq_false_iff.mpr c33
       subst c33
       have H1 : (some false) = some r := by rw [if_neg (show ¬ (false = true) by decide)] at H; exact H
       clear H
       have H := H1
       clear H1
       obtain rfl := Option.some.inj H
       have hcz41_0 : wc.cell? ⟨gb228, 0, none⟩ = some (.int .i64 t220) := (blk_cell BK228.out 0).trans rfl
       have hcz41_1 : wc.cell? ⟨gb228, 1, none⟩ = some (.int .i64 t221) := (blk_cell BK228.out 1).trans rfl
       have hcz41_2 : wc.cell? ⟨gb228, 2, none⟩ = some (.slice Ao10 t222.length co10) := (blk_cell BK228.out 2).trans rfl
       have hcz41_3 : wc.cell? ⟨gb228, 3, none⟩ = some (.slice Ao11 t225.length co11) := (blk_cell BK228.out 3).trans rfl
       have hfz41_0 := blk_frozen BK228.out 0
       have hfz41_1 := blk_frozen BK228.out 1
       have hfz41_2 := blk_frozen BK228.out 2
       have hfz41_3 := blk_frozen BK228.out 3
       go_wp2_with (first | ((with_reducible refine gate_callee (f := 13) rfl ?_); refine goesL_ (some 19) rfl rfl Try.func13 (by kernel_rfl) rfl #[.agg #[.int .i64 t220, .int .i64 t221, .slice Ao10 t222.length co10, .slice Ao11 t225.length co11], .string x1_5] rfl (by (try simp only [List.map_toArray, List.map_cons, List.map_nil]); first | done | rfl | (simp only [List.length_drop, List.length_take]; rfl)) ?_; (with_reducible refine (clinkerlaw03_same.calls kj5 t220 t221 _ _ t222 _ _ t225 x1_5 true _ ?side1 ?side2 ?side3 ?side4 A15.out).mono ?_); (case side1 => repeat (first | exact (Kd.R_reads' HO_229002.out).2.2 | (with_reducible refine Kd.C_alloc ?_ _) | (with_reducible refine Kd.C_drewN ?_ _) | (with_reducible refine Kd.C_drew ?_))); (case side2 => exact (Kd.R_reads' HO_229002.out).2.1); (case side3 => repeat (first | exact (Kd.R_reads' HO_229003.out).2.2 | (with_reducible refine Kd.C_alloc ?_ _) | (with_reducible refine Kd.C_drewN ?_ _) | (with_reducible refine Kd.C_drew ?_))); (case side4 => exact (Kd.R_reads' HO_229003.out).2.1); rintro e w42 ⟨rfl, hb⟩; refine ⟨_, rfl, ?_⟩; have n0_ := Aside0.mk (Kd.R_below (by (with_reducible repeat (first | apply Kd.R_alloc | apply Kd.R_drewN | apply Kd.R_drew)); exact HO_229002.out) hb); have n1_ := Aside0.mk (Kd.R_below (by (with_reducible repeat (first | apply Kd.R_alloc | apply Kd.R_drewN | apply Kd.R_drew)); exact HO_229003.out) hb); have n2_ := Aside0.mk (blk_below (g := gb228) (o := .cells #[.int .i64 t220, .int .i64 t221, .slice Ao10 t222.length co10, .slice Ao11 t225.length co11] 24 (0, 0)) (by (with_reducible repeat (first | refine blk_drewN ?_ _ | refine blk_drew ?_ | refine blk_alloc ?_ _)); exact BK228.out) hb); have n3_ := Aside0.mk (below_step (by repeat (first | (with_reducible first | exact HB.out | apply below_alloc | apply pw_below_drewN | apply below_drew1 | refine below_set ?_ GE228.out) | exact HB.out)) hb); clear HO_229002; clear HO_229003; clear BK228; clear HB; have HO_229002 := n0_; have HO_229003 := n1_; have BK228 := n2_; have HB := n3_; clear n0_ n1_ n2_ n3_; (try clear hb); (try clear hb2); (try clear hk); (try clear hi); have hcz43_0 : w42.cell? ⟨gb228, 0, none⟩ = some (.int .i64 t220) := (blk_cell BK228.out 0).trans rfl; have hcz43_1 : w42.cell? ⟨gb228, 1, none⟩ = some (.int .i64 t221) := (blk_cell BK228.out 1).trans rfl; have hcz43_2 : w42.cell? ⟨gb228, 2, none⟩ = some (.slice Ao10 t222.length co10) := (blk_cell BK228.out 2).trans rfl; have hcz43_3 : w42.cell? ⟨gb228, 3, none⟩ = some (.slice Ao11 t225.length co11) := (blk_cell BK228.out 3).trans rfl; have hfz43_0 := blk_frozen BK228.out 0; have hfz43_1 := blk_frozen BK228.out 1; have hfz43_2 := blk_frozen BK228.out 2; have hfz43_3 := blk_frozen BK228.out 3) | ((with_reducible refine gate_callee (f := 11) rfl ?_); refine goesL_ (some 55) rfl rfl Try.func11 (by kernel_rfl) rfl #[] rfl (by (try simp only [List.map_toArray, List.map_cons, List.map_nil]); first | done | rfl | (simp only [List.length_drop, List.length_take]; rfl)) ?_; (with_reducible refine (clinkerlaw03_awake.calls  false _ A32.out).mono ?_); rintro e w44 ⟨rfl, hb⟩; refine ⟨_, rfl, ?_⟩; have n0_ := Aside0.mk (Kd.R_below (by (with_reducible repeat (first | apply Kd.R_alloc | apply Kd.R_drewN | apply Kd.R_drew)); exact (Kd.R_mono (Kd.R_far (p := ⟨gb228, 1, none⟩) (Kd.R_types HO_229002.out BK228.out (by decide)) (fun _ hk => hk.2) (.int .i64 a3)) (fun _ h_ => h_.1))) hb); have n1_ := Aside0.mk (Kd.R_below (by (with_reducible repeat (first | apply Kd.R_alloc | apply Kd.R_drewN | apply Kd.R_drew)); exact (Kd.R_mono (Kd.R_far (p := ⟨gb228, 1, none⟩) (Kd.R_types HO_229003.out BK228.out (by decide)) (fun _ hk => hk.2) (.int .i64 a3)) (fun _ h_ => h_.1))) hb); have n2_ := Aside0.mk (blk_below (g := gb228) (o := .cells #[.int .i64 t220, .int .i64 a3, .slice Ao10 t222.length co10, .slice Ao11 t225.length co11] 24 (0, 0)) (by (with_reducible repeat (first | refine blk_drewN ?_ _ | refine blk_drew ?_ | refine blk_alloc ?_ _)); refine blk_put (cs := #[.int .i64 t220, .int .i64 t221, .slice Ao10 t222.length co10, .slice Ao11 t225.length co11]) ?_ 1 _ rfl; (with_reducible repeat (first | refine blk_drewN ?_ _ | refine blk_drew ?_ | refine blk_alloc ?_ _)); exact BK228.out) hb); have n3_ := Aside0.mk (below_step (by repeat (first | (with_reducible first | exact HB.out | apply below_alloc | apply pw_below_drewN | apply below_drew1 | refine below_set ?_ GE228.out) | exact HB.out)) hb); clear HO_229002; clear HO_229003; clear BK228; clear HB; have HO_229002 := n0_; have HO_229003 := n1_; have BK228 := n2_; have HB := n3_; clear n0_ n1_ n2_ n3_; (try clear hb); (try clear hb2); (try clear hk); (try clear hi)))
       go_ret
       exact ⟨by first | rfl | (simp [errW_none, errW_some] <;> rfl) | (simp [*, errW_none, errW_some] <;> rfl), by repeat (first | (with_reducible first | exact HB.out | apply below_alloc | apply pw_below_drewN | apply below_drew1 | refine below_set ?_ GE228.out) | exact HB.out)⟩
     ·
      rw [if_neg c31] at H
      have c31b0 : ((Int.tmod a2 5) == 1) = false := beq_eq_false_iff_ne.mpr c31
      have c31b1 : ((Int.tmod a2 5) != 1) = true := bne_iff_ne.mpr c31
      by_cases c45 : (Int.tmod a2 5) = 2
      ·
       rw [if_pos c45] at H
       have c45b0 : ((Int.tmod a2 5) == 2) = true := beq_iff_eq.mpr c45
       have c45b1 : ((Int.tmod a2 5) != 2) = false := bne_eq_false_iff_eq.mpr c45
       clear c45
       by_cases c46 : t222.length < 17592186044416
       ·
        rw [if_pos c46] at H
        have LMc46 := Aside0.mk c46
        clear c46
        obtain ⟨y234, hy234⟩ : ∃ y_ : List Int, y_ = (t222 ++ [a3]) := ⟨_, rfl⟩
        replace H : ((clinkerlaw03_awake.f).bind fun t237 => (if t237 = true then ((clinkerlaw03_same.f kj5 t220 t221 y234 t225 x1_5).bind fun t238 => (some t238)) else (some false))) = some r := by first | (rw [hy234]; with_reducible exact H) | (have H2_ := (Option.bind_some _ _).symm.trans H; rw [hy234]; with_reducible exact H2_) | (have H2_ := (Option.bind_some _ _).symm.trans H; with_reducible exact H2_) | with_reducible exact H | (rw [hy234]; exact H) | exact H
        have Ny234 := Aside0.mk hy234
        clear hy234
        replace H := Option.bind_eq_some_iff.mp H
        obtain ⟨t237, A470, H⟩ := H
        replace H : (if t237 = true then ((clinkerlaw03_same.f kj5 t220 t221 y234 t225 x1_5).bind fun t238 => (some t238)) else (some false)) = some r := H
        have A47 := Aside0.mk A470
        clear A470
        by_cases c48 : t237 = true
        ·
         subst c48
         have H1 : ((clinkerlaw03_same.f kj5 t220 t221 y234 t225 x1_5).bind fun t238 => (some t238)) = some r := by rw [if_pos rfl] at H; exact H
         clear H
         have H := H1
         clear H1
         replace H := Option.bind_eq_some_iff.mp H
         obtain ⟨t238, A490, H⟩ := H
         replace H : (some t238) = some r := H
         have A49 := Aside0.mk A490
         clear A490
         obtain rfl := Option.some.inj H
         have hcz50_0 : wc.cell? ⟨gb228, 0, none⟩ = some (.int .i64 t220) := (blk_cell BK228.out 0).trans rfl
         have hcz50_1 : wc.cell? ⟨gb228, 1, none⟩ = some (.int .i64 t221) := (blk_cell BK228.out 1).trans rfl
         have hcz50_2 : wc.cell? ⟨gb228, 2, none⟩ = some (.slice Ao10 t222.length co10) := (blk_cell BK228.out 2).trans rfl
         have hcz50_3 : wc.cell? ⟨gb228, 3, none⟩ = some (.slice Ao11 t225.length co11) := (blk_cell BK228.out 3).trans rfl
         have hfz50_0 := blk_frozen BK228.out 0
         have hfz50_1 := blk_frozen BK228.out 1
         have hfz50_2 := blk_frozen BK228.out 2
         have hfz50_3 := blk_frozen BK228.out 3
         go_wp2_with (first | ((with_reducible refine gate_callee (f := 13) rfl ?_); refine goesL_ (some 19) rfl rfl Try.func13 (by kernel_rfl) rfl #[.agg #[.int .i64 t220, .int .i64 t221, .slice Ao10 t222.length co10, .slice Ao11 t225.length co11], .string x1_5] rfl (by (try simp only [List.map_toArray, List.map_cons, List.map_nil]); first | done | rfl | (simp only [List.length_drop, List.length_take]; rfl)) ?_; (with_reducible refine (clinkerlaw03_same.calls kj5 t220 t221 _ _ t222 _ _ t225 x1_5 true _ ?side1 ?side2 ?side3 ?side4 A15.out).mono ?_); (case side1 => repeat (first | exact (Kd.R_reads' HO_229002.out).2.2 | (with_reducible refine Kd.C_alloc ?_ _) | (with_reducible refine Kd.C_drewN ?_ _) | (with_reducible refine Kd.C_drew ?_))); (case side2 => exact (Kd.R_reads' HO_229002.out).2.1); (case side3 => repeat (first | exact (Kd.R_reads' HO_229003.out).2.2 | (with_reducible refine Kd.C_alloc ?_ _) | (with_reducible refine Kd.C_drewN ?_ _) | (with_reducible refine Kd.C_drew ?_))); (case side4 => exact (Kd.R_reads' HO_229003.out).2.1); rintro e w51 ⟨rfl, hb⟩; refine ⟨_, rfl, ?_⟩; have n0_ := Aside0.mk (Kd.R_below (by (with_reducible repeat (first | apply Kd.R_alloc | apply Kd.R_drewN | apply Kd.R_drew)); exact HO_229002.out) hb); have n1_ := Aside0.mk (Kd.R_below (by (with_reducible repeat (first | apply Kd.R_alloc | apply Kd.R_drewN | apply Kd.R_drew)); exact HO_229003.out) hb); have n2_ := Aside0.mk (blk_below (g := gb228) (o := .cells #[.int .i64 t220, .int .i64 t221, .slice Ao10 t222.length co10, .slice Ao11 t225.length co11] 24 (0, 0)) (by (with_reducible repeat (first | refine blk_drewN ?_ _ | refine blk_drew ?_ | refine blk_alloc ?_ _)); exact BK228.out) hb); have n3_ := Aside0.mk (below_step (by repeat (first | (with_reducible first | exact HB.out | apply below_alloc | apply pw_below_drewN | apply below_drew1 | refine below_set ?_ GE228.out) | exact HB.out)) hb); clear HO_229002; clear HO_229003; clear BK228; clear HB; have HO_229002 := n0_; have HO_229003 := n1_; have BK228 := n2_; have HB := n3_; clear n0_ n1_ n2_ n3_; (try clear hb); (try clear hb2); (try clear hk); (try clear hi); have hcz52_0 : w51.cell? ⟨gb228, 0, none⟩ = some (.int .i64 t220) := (blk_cell BK228.out 0).trans rfl; have hcz52_1 : w51.cell? ⟨gb228, 1, none⟩ = some (.int .i64 t221) := (blk_cell BK228.out 1).trans rfl; have hcz52_2 : w51.cell? ⟨gb228, 2, none⟩ = some (.slice Ao10 t222.length co10) := (blk_cell BK228.out 2).trans rfl; have hcz52_3 : w51.cell? ⟨gb228, 3, none⟩ = some (.slice Ao11 t225.length co11) := (blk_cell BK228.out 3).trans rfl; have hfz52_0 := blk_frozen BK228.out 0; have hfz52_1 := blk_frozen BK228.out 1; have hfz52_2 := blk_frozen BK228.out 2; have hfz52_3 := blk_frozen BK228.out 3) | ((with_reducible refine gate_builtin (b := .append) (xs := #[.tmp 42, .tmp 44]) rfl ?_); at_builtin; refine Kd.R_append (Kd.int .i64) (w0 := w) w.heap.size rfl (.tmp 42) (.tmp 44) 22 3 (.int .i64 0) 8 rfl Try.underlying22 info3 rfl (by decide) (by omega) (.slice Ao10 t222.length co10) t222 a3 [.int .i64 a3] (fun k_ => some k_ ≠ (.slice Ao11 t225.length co11 : Value).ownBlock) (fun _ => False) rfl rfl ?aP (fun _ hk => hk.elim) ?aF ?aO ?aB ?aS ?aL ?_; (case aP => exact rfl); (case aB => exact (by repeat (first | (with_reducible first | exact HB.out | apply below_alloc | apply pw_below_drewN | apply below_drew1 | refine below_set ?_ GE228.out) | exact HB.out))); (case aF => exact (fun k_ hk => Kd.fresh' (Kd.R_lt (by (with_reducible repeat (first | apply Kd.R_alloc | apply Kd.R_drewN | apply Kd.R_drew)); exact HO_229003.out)) k_ hk)); (case aO => exact (by (with_reducible repeat (first | apply Kd.R_alloc | apply Kd.R_drewN | apply Kd.R_drew)); exact HO_229002.out)); (case aS => exact (below_size (by repeat (first | (with_reducible first | exact HB.out | apply below_alloc | apply pw_below_drewN | apply below_drew1 | refine below_set ?_ GE228.out) | exact HB.out)))); (case aL => have := LMc46.out; omega); intro v235 w53 ho hb hg hat; rw [← Ny234.out] at ho; have n0_ := Aside0.mk (Kd.R_after (ok := (fun _ => True)) (by (with_reducible repeat (first | apply Kd.R_alloc | apply Kd.R_drewN | apply Kd.R_drew)); exact Kd.R_mono HO_229003.out (fun _ hk => ⟨trivial, hk⟩)) hg hat); have n1_ := Aside0.mk (blk_grown (g := gb228) (o := .cells #[.int .i64 t220, .int .i64 t221, .slice Ao10 t222.length co10, .slice Ao11 t225.length co11] 24 (0, 0)) (by (with_reducible repeat (first | refine blk_drewN ?_ _ | refine blk_drew ?_ | refine blk_alloc ?_ _)); exact BK228.out) hg (Kd.R_ne HO_229002.out BK228.out (by decide))); have n2_ := Aside0.mk (hb); have n3_ := Aside0.mk (ho); clear HO_229003; clear BK228; clear HB; clear HO_229002; have HO_229003 := n0_; have BK228 := n1_; have HB := n2_; have HO236 := n3_; clear n0_ n1_ n2_ n3_; clear ho hb hg hat; obtain ⟨Ao54, co54, eo54⟩ := Kd.R_slice HO236.out; subst eo54; have hcz55_0 : w53.cell? ⟨gb228, 0, none⟩ = some (.int .i64 t220) := (blk_cell BK228.out 0).trans rfl; have hcz55_1 : w53.cell? ⟨gb228, 1, none⟩ = some (.int .i64 t221) := (blk_cell BK228.out 1).trans rfl; have hcz55_2 : w53.cell? ⟨gb228, 2, none⟩ = some (.slice Ao10 t222.length co10) := (blk_cell BK228.out 2).trans rfl; have hcz55_3 : w53.cell? ⟨gb228, 3, none⟩ = some (.slice Ao11 t225.length co11) := (blk_cell BK228.out 3).trans rfl; have hfz55_0 := blk_frozen BK228.out 0; have hfz55_1 := blk_frozen BK228.out 1; have hfz55_2 := blk_frozen BK228.out 2; have hfz55_3 := blk_frozen BK228.out 3) | ((with_reducible refine gate_callee (f := 11) rfl ?_); refine goesL_ (some 55) rfl rfl Try.func11 (by kernel_rfl) rfl #[] rfl (by (try simp only [List.map_toArray, List.map_cons, List.map_nil]); first | done | rfl | (simp only [List.length_drop, List.length_take]; rfl)) ?_; (with_reducible refine (clinkerlaw03_awake.calls  true _ A47.out).mono ?_); rintro e w56 ⟨rfl, hb⟩; refine ⟨_, rfl, ?_⟩; have n0_ := Aside0.mk (Kd.R_below (by (with_reducible repeat (first | apply Kd.R_alloc | apply Kd.R_drewN | apply Kd.R_drew)); exact (Kd.R_mono (Kd.R_far (p := ⟨gb228, 2, none⟩) (Kd.R_types HO_229003.out BK228.out (by decide)) (fun _ hk => hk.2) (.slice Ao54 y234.length co54)) (fun _ h_ => h_.1))) hb); have n1_ := Aside0.mk (Kd.R_below (by (with_reducible repeat (first | apply Kd.R_alloc | apply Kd.R_drewN | apply Kd.R_drew)); exact (Kd.R_mono (Kd.R_far (p := ⟨gb228, 2, none⟩) (Kd.R_types HO236.out BK228.out (by decide)) (fun _ hk => hk.2) (.slice Ao54 y234.length co54)) (fun _ h_ => h_.1))) hb); have n2_ := Aside0.mk (blk_below (g := gb228) (o := .cells #[.int .i64 t220, .int .i64 t221, .slice Ao54 y234.length co54, .slice Ao11 t225.length co11] 24 (0, 0)) (by (with_reducible repeat (first | refine blk_drewN ?_ _ | refine blk_drew ?_ | refine blk_alloc ?_ _)); refine blk_put (cs := #[.int .i64 t220, .int .i64 t221, .slice Ao10 t222.length co10, .slice Ao11 t225.length co11]) ?_ 2 _ rfl; (with_reducible repeat (first | refine blk_drewN ?_ _ | refine blk_drew ?_ | refine blk_alloc ?_ _)); exact BK228.out) hb); have n3_ := Aside0.mk (below_step (by repeat (first | (with_reducible first | exact HB.out | apply below_alloc | apply pw_below_drewN | apply below_drew1 | refine below_set ?_ GE228.out) | exact HB.out)) hb); clear HO_229003; clear HO236; clear BK228; clear HB; have HO_229003 := n0_; have HO236 := n1_; have BK228 := n2_; have HB := n3_; clear n0_ n1_ n2_ n3_; (try clear hb); (try clear hb2); (try clear hk); (try clear hi); have hcz57_0 : w56.cell? ⟨gb228, 0, none⟩ = some (.int .i64 t220) := (blk_cell BK228.out 0).trans rfl; have hcz57_1 : w56.cell? ⟨gb228, 1, none⟩ = some (.int .i64 t221) := (blk_cell BK228.out 1).trans rfl; have hcz57_2 : w56.cell? ⟨gb228, 2, none⟩ = some (.slice Ao54 y234.length co54) := (blk_cell BK228.out 2).trans rfl; have hcz57_3 : w56.cell? ⟨gb228, 3, none⟩ = some (.slice Ao11 t225.length co11) := (blk_cell BK228.out 3).trans rfl; have hfz57_0 := blk_frozen BK228.out 0; have hfz57_1 := blk_frozen BK228.out 1; have hfz57_2 := blk_frozen BK228.out 2; have hfz57_3 := blk_frozen BK228.out 3) | (go_at_call 13; (with_reducible refine (clinkerlaw03_same.calls kj5 t220 t221 _ _ y234 _ _ t225 x1_5 t238 _ ?side1 ?side2 ?side3 ?side4 A49.out).mono ?_); (case side1 => repeat (first | exact (Kd.R_reads' HO236.out).2.2 | (with_reducible refine Kd.C_alloc ?_ _) | (with_reducible refine Kd.C_drewN ?_ _) | (with_reducible refine Kd.C_drew ?_))); (case side2 => exact (Kd.R_reads' HO236.out).2.1); (case side3 => repeat (first | exact (Kd.R_reads' HO_229003.out).2.2 | (with_reducible refine Kd.C_alloc ?_ _) | (with_reducible refine Kd.C_drewN ?_ _) | (with_reducible refine Kd.C_drew ?_))); (case side4 => exact (Kd.R_reads' HO_229003.out).2.1); rintro e w58 ⟨rfl, hb⟩; have n0_ := Aside0.mk (Kd.R_below (by (with_reducible repeat (first | apply Kd.R_alloc | apply Kd.R_drewN | apply Kd.R_drew)); exact HO_229003.out) hb); have n1_ := Aside0.mk (Kd.R_below (by (with_reducible repeat (first | apply Kd.R_alloc | apply Kd.R_drewN | apply Kd.R_drew)); exact HO236.out) hb); have n2_ := Aside0.mk (blk_below (g := gb228) (o := .cells #[.int .i64 t220, .int .i64 t221, .slice Ao54 y234.length co54, .slice Ao11 t225.length co11] 24 (0, 0)) (by (with_reducible repeat (first | refine blk_drewN ?_ _ | refine blk_drew ?_ | refine blk_alloc ?_ _)); exact BK228.out) hb); have n3_ := Aside0.mk (below_step (by repeat (first | (with_reducible first | exact HB.out | apply below_alloc | apply pw_below_drewN | apply below_drew1 | refine below_set ?_ GE228.out) | exact HB.out)) hb); clear HO_229003; clear HO236; clear BK228; clear HB; have HO_229003 := n0_; have HO236 := n1_; have BK228 := n2_; have HB := n3_; clear n0_ n1_ n2_ n3_; (try clear hb); (try clear hb2); (try clear hk); (try clear hi)))
         go_ret
         exact ⟨by first | rfl | (simp [errW_none, errW_some] <;> rfl) | (simp [*, errW_none, errW_some] <;> rfl), by repeat (first | (with_reducible first | exact HB.out | apply below_alloc | apply pw_below_drewN | apply below_drew1 | refine below_set ?_ GE228.out) | exact HB.out)⟩
        ·
         replace c48 := Bool.eq_false_iff.mpr c48
         subst c48
         have H1 : (some false) = some r := by rw [if_neg (show ¬ (false = true) by decide)] at H; exact H
         clear H
         have H := H1
         clear H1
         obtain rfl := Option.some.inj H
         have hcz59_0 : wc.cell? ⟨gb228, 0, none⟩ = some (.int .i64 t220) := (blk_cell BK228.out 0).trans rfl
         have hcz59_1 : wc.cell? ⟨gb228, 1, none⟩ = some (.int .i64 t221) := (blk_cell BK228.out 1).trans rfl
         have hcz59_2 : wc.cell? ⟨gb228, 2, none⟩ = some (.slice Ao10 t222.length co10) := (blk_cell BK228.out 2).trans rfl
         have hcz59_3 : wc.cell? ⟨gb228, 3, none⟩ = some (.slice Ao11 t225.length co11) := (blk_cell BK228.out 3).trans rfl
         have hfz59_0 := blk_frozen BK228.out 0
         have hfz59_1 := blk_frozen BK228.out 1
         have hfz59_2 := blk_frozen BK228.out 2
         have hfz59_3 := blk_frozen BK228.out 3
         go_wp2_with (first | ((with_reducible refine gate_callee (f := 13) rfl ?_); refine goesL_ (some 19) rfl rfl Try.func13 (by kernel_rfl) rfl #[.agg #[.int .i64 t220, .int .i64 t221, .slice Ao10 t222.length co10, .slice Ao11 t225.length co11], .string x1_5] rfl (by (try simp only [List.map_toArray, List.map_cons, List.map_nil]); first | done | rfl | (simp only [List.length_drop, List.length_take]; rfl)) ?_; (with_reducible refine (clinkerlaw03_same.calls kj5 t220 t221 _ _ t222 _ _ t225 x1_5 true _ ?side1 ?side2 ?side3 ?side4 A15.out).mono ?_); (case side1 => repeat (first | exact (Kd.R_reads' HO_229002.out).2.2 | (with_reducible refine Kd.C_alloc ?_ _) | (with_reducible refine Kd.C_drewN ?_ _) | (with_reducible refine Kd.C_drew ?_))); (case side2 => exact (Kd.R_reads' HO_229002.out).2.1); (case side3 => repeat (first | exact (Kd.R_reads' HO_229003.out).2.2 | (with_reducible refine Kd.C_alloc ?_ _) | (with_reducible refine Kd.C_drewN ?_ _) | (with_reducible refine Kd.C_drew ?_))); (case side4 => exact (Kd.R_reads' HO_229003.out).2.1); rintro e w60 ⟨rfl, hb⟩; refine ⟨_, rfl, ?_⟩; have n0_ := Aside0.mk (Kd.R_below (by (with_reducible repeat (first | apply Kd.R_alloc | apply Kd.R_drewN | apply Kd.R_drew)); exact HO_229002.out) hb); have n1_ := Aside0.mk (Kd.R_below (by (with_reducible repeat (first | apply Kd.R_alloc | apply Kd.R_drewN | apply Kd.R_drew)); exact HO_229003.out) hb); have n2_ := Aside0.mk (blk_below (g := gb228) (o := .cells #[.int .i64 t220, .int .i64 t221, .slice Ao10 t222.length co10, .slice Ao11 t225.length co11] 24 (0, 0)) (by (with_reducible repeat (first | refine blk_drewN ?_ _ | refine blk_drew ?_ | refine blk_alloc ?_ _)); exact BK228.out) hb); have n3_ := Aside0.mk (below_step (by repeat (first | (with_reducible first | exact HB.out | apply below_alloc | apply pw_below_drewN | apply below_drew1 | refine below_set ?_ GE228.out) | exact HB.out)) hb); clear HO_229002; clear HO_229003; clear BK228; clear HB; have HO_229002 := n0_; have HO_229003 := n1_; have BK228 := n2_; have HB := n3_; clear n0_ n1_ n2_ n3_; (try clear hb); (try clear hb2); (try clear hk); (try clear hi); have hcz61_0 : w60.cell? ⟨gb228, 0, none⟩ = some (.int .i64 t220) := (blk_cell BK228.out 0).trans rfl; have hcz61_1 : w60.cell? ⟨gb228, 1, none⟩ = some (.int .i64 t221) := (blk_cell BK228.out 1).trans rfl; have hcz61_2 : w60.cell? ⟨gb228, 2, none⟩ = some (.slice Ao10 t222.length co10) := (blk_cell BK228.out 2).trans rfl; have hcz61_3 : w60.cell? ⟨gb228, 3, none⟩ = some (.slice Ao11 t225.length co11) := (blk_cell BK228.out 3).trans rfl; have hfz61_0 := blk_frozen BK228.out 0; have hfz61_1 := blk_frozen BK228.out 1; have hfz61_2 := blk_frozen BK228.out 2; have hfz61_3 := blk_frozen BK228.out 3) | ((with_reducible refine gate_builtin (b := .append) (xs := #[.tmp 42, .tmp 44]) rfl ?_); at_builtin; refine Kd.R_append (Kd.int .i64) (w0 := w) w.heap.size rfl (.tmp 42) (.tmp 44) 22 3 (.int .i64 0) 8 rfl Try.underlying22 info3 rfl (by decide) (by omega) (.slice Ao10 t222.length co10) t222 a3 [.int .i64 a3] (fun k_ => some k_ ≠ (.slice Ao11 t225.length co11 : Value).ownBlock) (fun _ => False) rfl rfl ?aP (fun _ hk => hk.elim) ?aF ?aO ?aB ?aS ?aL ?_; (case aP => exact rfl); (case aB => exact (by repeat (first | (with_reducible first | exact HB.out | apply below_alloc | apply pw_below_drewN | apply below_drew1 | refine below_set ?_ GE228.out) | exact HB.out))); (case aF => exact (fun k_ hk => Kd.fresh' (Kd.R_lt (by (with_reducible repeat (first | apply Kd.R_alloc | apply Kd.R_drewN | apply Kd.R_drew)); exact HO_229003.out)) k_ hk)); (case aO => exact (by (with_reducible repeat (first | apply Kd.R_alloc | apply Kd.R_drewN | apply Kd.R_drew)); exact HO_229002.out)); (case aS => exact (below_size (by repeat (first | (with_reducible first | exact HB.out | apply below_alloc | apply pw_below_drewN | apply below_drew1 | refine below_set ?_ GE228.out) | exact HB.out)))); (case aL => have := LMc46.out; omega); intro v235 w62 ho hb hg hat; rw [← Ny234.out] at ho; have n0_ := Aside0.mk (Kd.R_after (ok := (fun _ => True)) (by (with_reducible repeat (first | apply Kd.R_alloc | apply Kd.R_drewN | apply Kd.R_drew)); exact Kd.R_mono HO_229003.out (fun _ hk => ⟨trivial, hk⟩)) hg hat); have n1_ := Aside0.mk (blk_grown (g := gb228) (o := .cells #[.int .i64 t220, .int .i64 t221, .slice Ao10 t222.length co10, .slice Ao11 t225.length co11] 24 (0, 0)) (by (with_reducible repeat (first | refine blk_drewN ?_ _ | refine blk_drew ?_ | refine blk_alloc ?_ _)); exact BK228.out) hg (Kd.R_ne HO_229002.out BK228.out (by decide))); have n2_ := Aside0.mk (hb); have n3_ := Aside0.mk (ho); clear HO_229003; clear BK228; clear HB; clear HO_229002; have HO_229003 := n0_; have BK228 := n1_; have HB := n2_; have HO236 := n3_; clear n0_ n1_ n2_ n3_; clear ho hb hg hat; obtain ⟨Ao63, co63, eo63⟩ := Kd.R_slice HO236.out; subst eo63; have hcz64_0 : w62.cell? ⟨gb228, 0, none⟩ = some (.int .i64 t220) := (blk_cell BK228.out 0).trans rfl; have hcz64_1 : w62.cell? ⟨gb228, 1, none⟩ = some (.int .i64 t221) := (blk_cell BK228.out 1).trans rfl; have hcz64_2 : w62.cell? ⟨gb228, 2, none⟩ = some (.slice Ao10 t222.length co10) := (blk_cell BK228.out 2).trans rfl; have hcz64_3 : w62.cell? ⟨gb228, 3, none⟩ = some (.slice Ao11 t225.length co11) := (blk_cell BK228.out 3).trans rfl; have hfz64_0 := blk_frozen BK228.out 0; have hfz64_1 := blk_frozen BK228.out 1; have hfz64_2 := blk_frozen BK228.out 2; have hfz64_3 := blk_frozen BK228.out 3) | ((with_reducible refine gate_callee (f := 11) rfl ?_); refine goesL_ (some 55) rfl rfl Try.func11 (by kernel_rfl) rfl #[] rfl (by (try simp only [List.map_toArray, List.map_cons, List.map_nil]); first | done | rfl | (simp only [List.length_drop, List.length_take]; rfl)) ?_; (with_reducible refine (clinkerlaw03_awake.calls  false _ A47.out).mono ?_); rintro e w65 ⟨rfl, hb⟩; refine ⟨_, rfl, ?_⟩; have n0_ := Aside0.mk (Kd.R_below (by (with_reducible repeat (first | apply Kd.R_alloc | apply Kd.R_drewN | apply Kd.R_drew)); exact (Kd.R_mono (Kd.R_far (p := ⟨gb228, 2, none⟩) (Kd.R_types HO_229003.out BK228.out (by decide)) (fun _ hk => hk.2) (.slice Ao63 y234.length co63)) (fun _ h_ => h_.1))) hb); have n1_ := Aside0.mk (Kd.R_below (by (with_reducible repeat (first | apply Kd.R_alloc | apply Kd.R_drewN | apply Kd.R_drew)); exact (Kd.R_mono (Kd.R_far (p := ⟨gb228, 2, none⟩) (Kd.R_types HO236.out BK228.out (by decide)) (fun _ hk => hk.2) (.slice Ao63 y234.length co63)) (fun _ h_ => h_.1))) hb); have n2_ := Aside0.mk (blk_below (g := gb228) (o := .cells #[.int .i64 t220, .int .i64 t221, .slice Ao63 y234.length co63, .slice Ao11 t225.length co11] 24 (0, 0)) (by (with_reducible repeat (first | refine blk_drewN ?_ _ | refine blk_drew ?_ | refine blk_alloc ?_ _)); refine blk_put (cs := #[.int .i64 t220, .int .i64 t221, .slice Ao10 t222.length co10, .slice Ao11 t225.length co11]) ?_ 2 _ rfl; (with_reducible repeat (first | refine blk_drewN ?_ _ | refine blk_drew ?_ | refine blk_alloc ?_ _)); exact BK228.out) hb); have n3_ := Aside0.mk (below_step (by repeat (first | (with_reducible first | exact HB.out | apply below_alloc | apply pw_below_drewN | apply below_drew1 | refine below_set ?_ GE228.out) | exact HB.out)) hb); clear HO_229003; clear HO236; clear BK228; clear HB; have HO_229003 := n0_; have HO236 := n1_; have BK228 := n2_; have HB := n3_; clear n0_ n1_ n2_ n3_; (try clear hb); (try clear hb2); (try clear hk); (try clear hi)))
         go_ret
         exact ⟨by first | rfl | (simp [errW_none, errW_some] <;> rfl) | (simp [*, errW_none, errW_some] <;> rfl), by repeat (first | (with_reducible first | exact HB.out | apply below_alloc | apply pw_below_drewN | apply below_drew1 | refine below_set ?_ GE228.out) | exact HB.out)⟩
       ·
        rw [if_neg c46] at H
        exact absurd H (by simp)
      ·
       rw [if_neg c45] at H
       have c45b0 : ((Int.tmod a2 5) == 2) = false := beq_eq_false_iff_ne.mpr c45
       have c45b1 : ((Int.tmod a2 5) != 2) = true := bne_iff_ne.mpr c45
       by_cases c66 : (Int.tmod a2 5) = 3
       ·
        rw [if_pos c66] at H
        have c66b0 : ((Int.tmod a2 5) == 3) = true := beq_iff_eq.mpr c66
        have c66b1 : ((Int.tmod a2 5) != 3) = false := bne_eq_false_iff_eq.mpr c66
        clear c66
        by_cases c67 : t225.length < 17592186044416
        ·
         rw [if_pos c67] at H
         have LMc67 := Aside0.mk c67
         clear c67
         obtain ⟨y239, hy239⟩ : ∃ y_ : List Int, y_ = (t225 ++ [a3]) := ⟨_, rfl⟩
         replace H : ((clinkerlaw03_awake.f).bind fun t242 => (if t242 = true then ((clinkerlaw03_same.f kj5 t220 t221 t222 y239 x1_5).bind fun t243 => (some t243)) else (some false))) = some r := by first | (rw [hy239]; with_reducible exact H) | (have H2_ := (Option.bind_some _ _).symm.trans H; rw [hy239]; with_reducible exact H2_) | (have H2_ := (Option.bind_some _ _).symm.trans H; with_reducible exact H2_) | with_reducible exact H | (rw [hy239]; exact H) | exact H
         have Ny239 := Aside0.mk hy239
         clear hy239
         replace H := Option.bind_eq_some_iff.mp H
         obtain ⟨t242, A680, H⟩ := H
         replace H : (if t242 = true then ((clinkerlaw03_same.f kj5 t220 t221 t222 y239 x1_5).bind fun t243 => (some t243)) else (some false)) = some r := H
         have A68 := Aside0.mk A680
         clear A680
         by_cases c69 : t242 = true
         ·
          subst c69
          have H1 : ((clinkerlaw03_same.f kj5 t220 t221 t222 y239 x1_5).bind fun t243 => (some t243)) = some r := by rw [if_pos rfl] at H; exact H
          clear H
          have H := H1
          clear H1
          replace H := Option.bind_eq_some_iff.mp H
          obtain ⟨t243, A700, H⟩ := H
          replace H : (some t243) = some r := H
          have A70 := Aside0.mk A700
          clear A700
          obtain rfl := Option.some.inj H
          have hcz71_0 : wc.cell? ⟨gb228, 0, none⟩ = some (.int .i64 t220) := (blk_cell BK228.out 0).trans rfl
          have hcz71_1 : wc.cell? ⟨gb228, 1, none⟩ = some (.int .i64 t221) := (blk_cell BK228.out 1).trans rfl
          have hcz71_2 : wc.cell? ⟨gb228, 2, none⟩ = some (.slice Ao10 t222.length co10) := (blk_cell BK228.out 2).trans rfl
          have hcz71_3 : wc.cell? ⟨gb228, 3, none⟩ = some (.slice Ao11 t225.length co11) := (blk_cell BK228.out 3).trans rfl
          have hfz71_0 := blk_frozen BK228.out 0
          have hfz71_1 := blk_frozen BK228.out 1
          have hfz71_2 := blk_frozen BK228.out 2
          have hfz71_3 := blk_frozen BK228.out 3
          go_wp2_with (first | ((with_reducible refine gate_callee (f := 13) rfl ?_); refine goesL_ (some 19) rfl rfl Try.func13 (by kernel_rfl) rfl #[.agg #[.int .i64 t220, .int .i64 t221, .slice Ao10 t222.length co10, .slice Ao11 t225.length co11], .string x1_5] rfl (by (try simp only [List.map_toArray, List.map_cons, List.map_nil]); first | done | rfl | (simp only [List.length_drop, List.length_take]; rfl)) ?_; (with_reducible refine (clinkerlaw03_same.calls kj5 t220 t221 _ _ t222 _ _ t225 x1_5 true _ ?side1 ?side2 ?side3 ?side4 A15.out).mono ?_); (case side1 => repeat (first | exact (Kd.R_reads' HO_229002.out).2.2 | (with_reducible refine Kd.C_alloc ?_ _) | (with_reducible refine Kd.C_drewN ?_ _) | (with_reducible refine Kd.C_drew ?_))); (case side2 => exact (Kd.R_reads' HO_229002.out).2.1); (case side3 => repeat (first | exact (Kd.R_reads' HO_229003.out).2.2 | (with_reducible refine Kd.C_alloc ?_ _) | (with_reducible refine Kd.C_drewN ?_ _) | (with_reducible refine Kd.C_drew ?_))); (case side4 => exact (Kd.R_reads' HO_229003.out).2.1); rintro e w72 ⟨rfl, hb⟩; refine ⟨_, rfl, ?_⟩; have n0_ := Aside0.mk (Kd.R_below (by (with_reducible repeat (first | apply Kd.R_alloc | apply Kd.R_drewN | apply Kd.R_drew)); exact HO_229002.out) hb); have n1_ := Aside0.mk (Kd.R_below (by (with_reducible repeat (first | apply Kd.R_alloc | apply Kd.R_drewN | apply Kd.R_drew)); exact HO_229003.out) hb); have n2_ := Aside0.mk (blk_below (g := gb228) (o := .cells #[.int .i64 t220, .int .i64 t221, .slice Ao10 t222.length co10, .slice Ao11 t225.length co11] 24 (0, 0)) (by (with_reducible repeat (first | refine blk_drewN ?_ _ | refine blk_drew ?_ | refine blk_alloc ?_ _)); exact BK228.out) hb); have n3_ := Aside0.mk (below_step (by repeat (first | (with_reducible first | exact HB.out | apply below_alloc | apply pw_below_drewN | apply below_drew1 | refine below_set ?_ GE228.out) | exact HB.out)) hb); clear HO_229002; clear HO_229003; clear BK228; clear HB; have HO_229002 := n0_; have HO_229003 := n1_; have BK228 := n2_; have HB := n3_; clear n0_ n1_ n2_ n3_; (try clear hb); (try clear hb2); (try clear hk); (try clear hi); have hcz73_0 : w72.cell? ⟨gb228, 0, none⟩ = some (.int .i64 t220) := (blk_cell BK228.out 0).trans rfl; have hcz73_1 : w72.cell? ⟨gb228, 1, none⟩ = some (.int .i64 t221) := (blk_cell BK228.out 1).trans rfl; have hcz73_2 : w72.cell? ⟨gb228, 2, none⟩ = some (.slice Ao10 t222.length co10) := (blk_cell BK228.out 2).trans rfl; have hcz73_3 : w72.cell? ⟨gb228, 3, none⟩ = some (.slice Ao11 t225.length co11) := (blk_cell BK228.out 3).trans rfl; have hfz73_0 := blk_frozen BK228.out 0; have hfz73_1 := blk_frozen BK228.out 1; have hfz73_2 := blk_frozen BK228.out 2; have hfz73_3 := blk_frozen BK228.out 3) | ((with_reducible refine gate_builtin (b := .append) (xs := #[.tmp 50, .tmp 52]) rfl ?_); at_builtin; refine Kd.R_append (Kd.int .i64) (w0 := w) w.heap.size rfl (.tmp 50) (.tmp 52) 22 3 (.int .i64 0) 8 rfl Try.underlying22 info3 rfl (by decide) (by omega) (.slice Ao11 t225.length co11) t225 a3 [.int .i64 a3] (fun k_ => some k_ ≠ (.slice Ao10 t222.length co10 : Value).ownBlock) (fun _ => False) rfl rfl ?aP (fun _ hk => hk.elim) ?aF ?aO ?aB ?aS ?aL ?_; (case aP => exact rfl); (case aB => exact (by repeat (first | (with_reducible first | exact HB.out | apply below_alloc | apply pw_below_drewN | apply below_drew1 | refine below_set ?_ GE228.out) | exact HB.out))); (case aF => exact (fun k_ hk => Kd.fresh' (Kd.R_lt (by (with_reducible repeat (first | apply Kd.R_alloc | apply Kd.R_drewN | apply Kd.R_drew)); exact HO_229002.out)) k_ hk)); (case aO => exact (by (with_reducible repeat (first | apply Kd.R_alloc | apply Kd.R_drewN | apply Kd.R_drew)); exact HO_229003.out)); (case aS => exact (below_size (by repeat (first | (with_reducible first | exact HB.out | apply below_alloc | apply pw_below_drewN | apply below_drew1 | refine below_set ?_ GE228.out) | exact HB.out)))); (case aL => have := LMc67.out; omega); intro v240 w74 ho hb hg hat; rw [← Ny239.out] at ho; have n0_ := Aside0.mk (Kd.R_after (ok := (fun _ => True)) (by (with_reducible repeat (first | apply Kd.R_alloc | apply Kd.R_drewN | apply Kd.R_drew)); exact Kd.R_mono HO_229002.out (fun _ hk => ⟨trivial, hk⟩)) hg hat); have n1_ := Aside0.mk (blk_grown (g := gb228) (o := .cells #[.int .i64 t220, .int .i64 t221, .slice Ao10 t222.length co10, .slice Ao11 t225.length co11] 24 (0, 0)) (by (with_reducible repeat (first | refine blk_drewN ?_ _ | refine blk_drew ?_ | refine blk_alloc ?_ _)); exact BK228.out) hg (Kd.R_ne HO_229003.out BK228.out (by decide))); have n2_ := Aside0.mk (hb); have n3_ := Aside0.mk (ho); clear HO_229002; clear BK228; clear HB; clear HO_229003; have HO_229002 := n0_; have BK228 := n1_; have HB := n2_; have HO241 := n3_; clear n0_ n1_ n2_ n3_; clear ho hb hg hat; obtain ⟨Ao75, co75, eo75⟩ := Kd.R_slice HO241.out; subst eo75; have hcz76_0 : w74.cell? ⟨gb228, 0, none⟩ = some (.int .i64 t220) := (blk_cell BK228.out 0).trans rfl; have hcz76_1 : w74.cell? ⟨gb228, 1, none⟩ = some (.int .i64 t221) := (blk_cell BK228.out 1).trans rfl; have hcz76_2 : w74.cell? ⟨gb228, 2, none⟩ = some (.slice Ao10 t222.length co10) := (blk_cell BK228.out 2).trans rfl; have hcz76_3 : w74.cell? ⟨gb228, 3, none⟩ = some (.slice Ao11 t225.length co11) := (blk_cell BK228.out 3).trans rfl; have hfz76_0 := blk_frozen BK228.out 0; have hfz76_1 := blk_frozen BK228.out 1; have hfz76_2 := blk_frozen BK228.out 2; have hfz76_3 := blk_frozen BK228.out 3) | ((with_reducible refine gate_callee (f := 11) rfl ?_); refine goesL_ (some 55) rfl rfl Try.func11 (by kernel_rfl) rfl #[] rfl (by (try simp only [List.map_toArray, List.map_cons, List.map_nil]); first | done | rfl | (simp only [List.length_drop, List.length_take]; rfl)) ?_; (with_reducible refine (clinkerlaw03_awake.calls  true _ A68.out).mono ?_); rintro e w77 ⟨rfl, hb⟩; refine ⟨_, rfl, ?_⟩; have n0_ := Aside0.mk (Kd.R_below (by (with_reducible repeat (first | apply Kd.R_alloc | apply Kd.R_drewN | apply Kd.R_drew)); exact (Kd.R_mono (Kd.R_far (p := ⟨gb228, 3, none⟩) (Kd.R_types HO_229002.out BK228.out (by decide)) (fun _ hk => hk.2) (.slice Ao75 y239.length co75)) (fun _ h_ => h_.1))) hb); have n1_ := Aside0.mk (Kd.R_below (by (with_reducible repeat (first | apply Kd.R_alloc | apply Kd.R_drewN | apply Kd.R_drew)); exact (Kd.R_mono (Kd.R_far (p := ⟨gb228, 3, none⟩) (Kd.R_types HO241.out BK228.out (by decide)) (fun _ hk => hk.2) (.slice Ao75 y239.length co75)) (fun _ h_ => h_.1))) hb); have n2_ := Aside0.mk (blk_below (g := gb228) (o := .cells #[.int .i64 t220, .int .i64 t221, .slice Ao10 t222.length co10, .slice Ao75 y239.length co75] 24 (0, 0)) (by (with_reducible repeat (first | refine blk_drewN ?_ _ | refine blk_drew ?_ | refine blk_alloc ?_ _)); refine blk_put (cs := #[.int .i64 t220, .int .i64 t221, .slice Ao10 t222.length co10, .slice Ao11 t225.length co11]) ?_ 3 _ rfl; (with_reducible repeat (first | refine blk_drewN ?_ _ | refine blk_drew ?_ | refine blk_alloc ?_ _)); exact BK228.out) hb); have n3_ := Aside0.mk (below_step (by repeat (first | (with_reducible first | exact HB.out | apply below_alloc | apply pw_below_drewN | apply below_drew1 | refine below_set ?_ GE228.out) | exact HB.out)) hb); clear HO_229002; clear HO241; clear BK228; clear HB; have HO_229002 := n0_; have HO241 := n1_; have BK228 := n2_; have HB := n3_; clear n0_ n1_ n2_ n3_; (try clear hb); (try clear hb2); (try clear hk); (try clear hi); have hcz78_0 : w77.cell? ⟨gb228, 0, none⟩ = some (.int .i64 t220) := (blk_cell BK228.out 0).trans rfl; have hcz78_1 : w77.cell? ⟨gb228, 1, none⟩ = some (.int .i64 t221) := (blk_cell BK228.out 1).trans rfl; have hcz78_2 : w77.cell? ⟨gb228, 2, none⟩ = some (.slice Ao10 t222.length co10) := (blk_cell BK228.out 2).trans rfl; have hcz78_3 : w77.cell? ⟨gb228, 3, none⟩ = some (.slice Ao75 y239.length co75) := (blk_cell BK228.out 3).trans rfl; have hfz78_0 := blk_frozen BK228.out 0; have hfz78_1 := blk_frozen BK228.out 1; have hfz78_2 := blk_frozen BK228.out 2; have hfz78_3 := blk_frozen BK228.out 3) | (go_at_call 13; (with_reducible refine (clinkerlaw03_same.calls kj5 t220 t221 _ _ t222 _ _ y239 x1_5 t243 _ ?side1 ?side2 ?side3 ?side4 A70.out).mono ?_); (case side1 => repeat (first | exact (Kd.R_reads' HO_229002.out).2.2 | (with_reducible refine Kd.C_alloc ?_ _) | (with_reducible refine Kd.C_drewN ?_ _) | (with_reducible refine Kd.C_drew ?_))); (case side2 => exact (Kd.R_reads' HO_229002.out).2.1); (case side3 => repeat (first | exact (Kd.R_reads' HO241.out).2.2 | (with_reducible refine Kd.C_alloc ?_ _) | (with_reducible refine Kd.C_drewN ?_ _) | (with_reducible refine Kd.C_drew ?_))); (case side4 => exact (Kd.R_reads' HO241.out).2.1); rintro e w79 ⟨rfl, hb⟩; have n0_ := Aside0.mk (Kd.R_below (by (with_reducible repeat (first | apply Kd.R_alloc | apply Kd.R_drewN | apply Kd.R_drew)); exact HO_229002.out) hb); have n1_ := Aside0.mk (Kd.R_below (by (with_reducible repeat (first | apply Kd.R_alloc | apply Kd.R_drewN | apply Kd.R_drew)); exact HO241.out) hb); have n2_ := Aside0.mk (blk_below (g := gb228) (o := .cells #[.int .i64 t220, .int .i64 t221, .slice Ao10 t222.length co10, .slice Ao75 y239.length co75] 24 (0, 0)) (by (with_reducible repeat (first | refine blk_drewN ?_ _ | refine blk_drew ?_ | refine blk_alloc ?_ _)); exact BK228.out) hb); have n3_ := Aside0.mk (below_step (by repeat (first | (with_reducible first | exact HB.out | apply below_alloc | apply pw_below_drewN | apply below_drew1 | refine below_set ?_ GE228.out) | exact HB.out)) hb); clear HO_229002; clear HO241; clear BK228; clear HB; have HO_229002 := n0_; have HO241 := n1_; have BK228 := n2_; have HB := n3_; clear n0_ n1_ n2_ n3_; (try clear hb); (try clear hb2); (try clear hk); (try clear hi)))
          go_ret
          exact ⟨by first | rfl | (simp [errW_none, errW_some] <;> rfl) | (simp [*, errW_none, errW_some] <;> rfl), by repeat (first | (with_reducible first | exact HB.out | apply below_alloc | apply pw_below_drewN | apply below_drew1 | refine below_set ?_ GE228.out) | exact HB.out)⟩
         ·
          replace c69 := Bool.eq_false_iff.mpr c69
          subst c69
          have H1 : (some false) = some r := by rw [if_neg (show ¬ (false = true) by decide)] at H; exact H
          clear H
          have H := H1
          clear H1
          obtain rfl := Option.some.inj H
          have hcz80_0 : wc.cell? ⟨gb228, 0, none⟩ = some (.int .i64 t220) := (blk_cell BK228.out 0).trans rfl
          have hcz80_1 : wc.cell? ⟨gb228, 1, none⟩ = some (.int .i64 t221) := (blk_cell BK228.out 1).trans rfl
          have hcz80_2 : wc.cell? ⟨gb228, 2, none⟩ = some (.slice Ao10 t222.length co10) := (blk_cell BK228.out 2).trans rfl
          have hcz80_3 : wc.cell? ⟨gb228, 3, none⟩ = some (.slice Ao11 t225.length co11) := (blk_cell BK228.out 3).trans rfl
          have hfz80_0 := blk_frozen BK228.out 0
          have hfz80_1 := blk_frozen BK228.out 1
          have hfz80_2 := blk_frozen BK228.out 2
          have hfz80_3 := blk_frozen BK228.out 3
          go_wp2_with (first | ((with_reducible refine gate_callee (f := 13) rfl ?_); refine goesL_ (some 19) rfl rfl Try.func13 (by kernel_rfl) rfl #[.agg #[.int .i64 t220, .int .i64 t221, .slice Ao10 t222.length co10, .slice Ao11 t225.length co11], .string x1_5] rfl (by (try simp only [List.map_toArray, List.map_cons, List.map_nil]); first | done | rfl | (simp only [List.length_drop, List.length_take]; rfl)) ?_; (with_reducible refine (clinkerlaw03_same.calls kj5 t220 t221 _ _ t222 _ _ t225 x1_5 true _ ?side1 ?side2 ?side3 ?side4 A15.out).mono ?_); (case side1 => repeat (first | exact (Kd.R_reads' HO_229002.out).2.2 | (with_reducible refine Kd.C_alloc ?_ _) | (with_reducible refine Kd.C_drewN ?_ _) | (with_reducible refine Kd.C_drew ?_))); (case side2 => exact (Kd.R_reads' HO_229002.out).2.1); (case side3 => repeat (first | exact (Kd.R_reads' HO_229003.out).2.2 | (with_reducible refine Kd.C_alloc ?_ _) | (with_reducible refine Kd.C_drewN ?_ _) | (with_reducible refine Kd.C_drew ?_))); (case side4 => exact (Kd.R_reads' HO_229003.out).2.1); rintro e w81 ⟨rfl, hb⟩; refine ⟨_, rfl, ?_⟩; have n0_ := Aside0.mk (Kd.R_below (by (with_reducible repeat (first | apply Kd.R_alloc | apply Kd.R_drewN | apply Kd.R_drew)); exact HO_229002.out) hb); have n1_ := Aside0.mk (Kd.R_below (by (with_reducible repeat (first | apply Kd.R_alloc | apply Kd.R_drewN | apply Kd.R_drew)); exact HO_229003.out) hb); have n2_ := Aside0.mk (blk_below (g := gb228) (o := .cells #[.int .i64 t220, .int .i64 t221, .slice Ao10 t222.length co10, .slice Ao11 t225.length co11] 24 (0, 0)) (by (with_reducible repeat (first | refine blk_drewN ?_ _ | refine blk_drew ?_ | refine blk_alloc ?_ _)); exact BK228.out) hb); have n3_ := Aside0.mk (below_step (by repeat (first | (with_reducible first | exact HB.out | apply below_alloc | apply pw_below_drewN | apply below_drew1 | refine below_set ?_ GE228.out) | exact HB.out)) hb); clear HO_229002; clear HO_229003; clear BK228; clear HB; have HO_229002 := n0_; have HO_229003 := n1_; have BK228 := n2_; have HB := n3_; clear n0_ n1_ n2_ n3_; (try clear hb); (try clear hb2); (try clear hk); (try clear hi); have hcz82_0 : w81.cell? ⟨gb228, 0, none⟩ = some (.int .i64 t220) := (blk_cell BK228.out 0).trans rfl; have hcz82_1 : w81.cell? ⟨gb228, 1, none⟩ = some (.int .i64 t221) := (blk_cell BK228.out 1).trans rfl; have hcz82_2 : w81.cell? ⟨gb228, 2, none⟩ = some (.slice Ao10 t222.length co10) := (blk_cell BK228.out 2).trans rfl; have hcz82_3 : w81.cell? ⟨gb228, 3, none⟩ = some (.slice Ao11 t225.length co11) := (blk_cell BK228.out 3).trans rfl; have hfz82_0 := blk_frozen BK228.out 0; have hfz82_1 := blk_frozen BK228.out 1; have hfz82_2 := blk_frozen BK228.out 2; have hfz82_3 := blk_frozen BK228.out 3) | ((with_reducible refine gate_builtin (b := .append) (xs := #[.tmp 50, .tmp 52]) rfl ?_); at_builtin; refine Kd.R_append (Kd.int .i64) (w0 := w) w.heap.size rfl (.tmp 50) (.tmp 52) 22 3 (.int .i64 0) 8 rfl Try.underlying22 info3 rfl (by decide) (by omega) (.slice Ao11 t225.length co11) t225 a3 [.int .i64 a3] (fun k_ => some k_ ≠ (.slice Ao10 t222.length co10 : Value).ownBlock) (fun _ => False) rfl rfl ?aP (fun _ hk => hk.elim) ?aF ?aO ?aB ?aS ?aL ?_; (case aP => exact rfl); (case aB => exact (by repeat (first | (with_reducible first | exact HB.out | apply below_alloc | apply pw_below_drewN | apply below_drew1 | refine below_set ?_ GE228.out) | exact HB.out))); (case aF => exact (fun k_ hk => Kd.fresh' (Kd.R_lt (by (with_reducible repeat (first | apply Kd.R_alloc | apply Kd.R_drewN | apply Kd.R_drew)); exact HO_229002.out)) k_ hk)); (case aO => exact (by (with_reducible repeat (first | apply Kd.R_alloc | apply Kd.R_drewN | apply Kd.R_drew)); exact HO_229003.out)); (case aS => exact (below_size (by repeat (first | (with_reducible first | exact HB.out | apply below_alloc | apply pw_below_drewN | apply below_drew1 | refine below_set ?_ GE228.out) | exact HB.out)))); (case aL => have := LMc67.out; omega); intro v240 w83 ho hb hg hat; rw [← Ny239.out] at ho; have n0_ := Aside0.mk (Kd.R_after (ok := (fun _ => True)) (by (with_reducible repeat (first | apply Kd.R_alloc | apply Kd.R_drewN | apply Kd.R_drew)); exact Kd.R_mono HO_229002.out (fun _ hk => ⟨trivial, hk⟩)) hg hat); have n1_ := Aside0.mk (blk_grown (g := gb228) (o := .cells #[.int .i64 t220, .int .i64 t221, .slice Ao10 t222.length co10, .slice Ao11 t225.length co11] 24 (0, 0)) (by (with_reducible repeat (first | refine blk_drewN ?_ _ | refine blk_drew ?_ | refine blk_alloc ?_ _)); exact BK228.out) hg (Kd.R_ne HO_229003.out BK228.out (by decide))); have n2_ := Aside0.mk (hb); have n3_ := Aside0.mk (ho); clear HO_229002; clear BK228; clear HB; clear HO_229003; have HO_229002 := n0_; have BK228 := n1_; have HB := n2_; have HO241 := n3_; clear n0_ n1_ n2_ n3_; clear ho hb hg hat; obtain ⟨Ao84, co84, eo84⟩ := Kd.R_slice HO241.out; subst eo84; have hcz85_0 : w83.cell? ⟨gb228, 0, none⟩ = some (.int .i64 t220) := (blk_cell BK228.out 0).trans rfl; have hcz85_1 : w83.cell? ⟨gb228, 1, none⟩ = some (.int .i64 t221) := (blk_cell BK228.out 1).trans rfl; have hcz85_2 : w83.cell? ⟨gb228, 2, none⟩ = some (.slice Ao10 t222.length co10) := (blk_cell BK228.out 2).trans rfl; have hcz85_3 : w83.cell? ⟨gb228, 3, none⟩ = some (.slice Ao11 t225.length co11) := (blk_cell BK228.out 3).trans rfl; have hfz85_0 := blk_frozen BK228.out 0; have hfz85_1 := blk_frozen BK228.out 1; have hfz85_2 := blk_frozen BK228.out 2; have hfz85_3 := blk_frozen BK228.out 3) | ((with_reducible refine gate_callee (f := 11) rfl ?_); refine goesL_ (some 55) rfl rfl Try.func11 (by kernel_rfl) rfl #[] rfl (by (try simp only [List.map_toArray, List.map_cons, List.map_nil]); first | done | rfl | (simp only [List.length_drop, List.length_take]; rfl)) ?_; (with_reducible refine (clinkerlaw03_awake.calls  false _ A68.out).mono ?_); rintro e w86 ⟨rfl, hb⟩; refine ⟨_, rfl, ?_⟩; have n0_ := Aside0.mk (Kd.R_below (by (with_reducible repeat (first | apply Kd.R_alloc | apply Kd.R_drewN | apply Kd.R_drew)); exact (Kd.R_mono (Kd.R_far (p := ⟨gb228, 3, none⟩) (Kd.R_types HO_229002.out BK228.out (by decide)) (fun _ hk => hk.2) (.slice Ao84 y239.length co84)) (fun _ h_ => h_.1))) hb); have n1_ := Aside0.mk (Kd.R_below (by (with_reducible repeat (first | apply Kd.R_alloc | apply Kd.R_drewN | apply Kd.R_drew)); exact (Kd.R_mono (Kd.R_far (p := ⟨gb228, 3, none⟩) (Kd.R_types HO241.out BK228.out (by decide)) (fun _ hk => hk.2) (.slice Ao84 y239.length co84)) (fun _ h_ => h_.1))) hb); have n2_ := Aside0.mk (blk_below (g := gb228) (o := .cells #[.int .i64 t220, .int .i64 t221, .slice Ao10 t222.length co10, .slice Ao84 y239.length co84] 24 (0, 0)) (by (with_reducible repeat (first | refine blk_drewN ?_ _ | refine blk_drew ?_ | refine blk_alloc ?_ _)); refine blk_put (cs := #[.int .i64 t220, .int .i64 t221, .slice Ao10 t222.length co10, .slice Ao11 t225.length co11]) ?_ 3 _ rfl; (with_reducible repeat (first | refine blk_drewN ?_ _ | refine blk_drew ?_ | refine blk_alloc ?_ _)); exact BK228.out) hb); have n3_ := Aside0.mk (below_step (by repeat (first | (with_reducible first | exact HB.out | apply below_alloc | apply pw_below_drewN | apply below_drew1 | refine below_set ?_ GE228.out) | exact HB.out)) hb); clear HO_229002; clear HO241; clear BK228; clear HB; have HO_229002 := n0_; have HO241 := n1_; have BK228 := n2_; have HB := n3_; clear n0_ n1_ n2_ n3_; (try clear hb); (try clear hb2); (try clear hk); (try clear hi)))
          go_ret
          exact ⟨by first | rfl | (simp [errW_none, errW_some] <;> rfl) | (simp [*, errW_none, errW_some] <;> rfl), by repeat (first | (with_reducible first | exact HB.out | apply below_alloc | apply pw_below_drewN | apply below_drew1 | refine below_set ?_ GE228.out) | exact HB.out)⟩
        ·
         rw [if_neg c67] at H
         exact absurd H (by simp)
       ·
        rw [if_neg c66] at H
        have c66b0 : ((Int.tmod a2 5) == 3) = false := beq_eq_false_iff_ne.mpr c66
        have c66b1 : ((Int.tmod a2 5) != 3) = true := bne_iff_ne.mpr c66
        obtain ⟨ji87, hji87⟩ : ∃ j_ : Int, (wrap64 ((t222.length : Int) - 1)) = j_ := ⟨_, rfl⟩
        replace H : (if 0 ≤ (ji87) then (if (ji87) ≤ (t222.length : Int) then ((clinkerlaw03_awake.f).bind fun t247 => (if t247 = true then ((clinkerlaw03_same.f kj5 t220 t221 (t222.take ((ji87) : Int).toNat) t225 x1_5).bind fun t248 => (some t248)) else (some false))) else (none)) else (none)) = some r := by first | (rw [hji87] at H; exact H) | (simp only [hji87] at H ⊢; exact H)
        (try rw [hji87] at A15)
        have hji87w : (IntKind.i64.wrap ((t222.length : Int) - 1)) = ji87 := (i64_w _).trans hji87
        by_cases c88 : 0 ≤ (ji87)
        ·
         rw [if_pos c88] at H
         have c88b0 := eq_true c88
         have c88b1 : decide (0 ≤ (ji87)) = true := decide_eq_true c88
         clear c88
         by_cases c89 : (ji87) ≤ (t222.length : Int)
         ·
          rw [if_pos c89] at H
          have c89b0 := eq_true c89
          have c89b1 : decide ((ji87) ≤ (t222.length : Int)) = true := decide_eq_true c89
          clear c89
          obtain ⟨y244, hy244⟩ : ∃ y_ : List Int, y_ = (t222.take ((ji87) : Int).toNat) := ⟨_, rfl⟩
          replace H : ((clinkerlaw03_awake.f).bind fun t247 => (if t247 = true then ((clinkerlaw03_same.f kj5 t220 t221 y244 t225 x1_5).bind fun t248 => (some t248)) else (some false))) = some r := by first | (rw [hy244]; with_reducible exact H) | (have H2_ := (Option.bind_some _ _).symm.trans H; rw [hy244]; with_reducible exact H2_) | (have H2_ := (Option.bind_some _ _).symm.trans H; with_reducible exact H2_) | with_reducible exact H | (rw [hy244]; exact H) | exact H
          have Ny244 := Aside0.mk hy244
          clear hy244
          replace H := Option.bind_eq_some_iff.mp H
          obtain ⟨t247, A900, H⟩ := H
          replace H : (if t247 = true then ((clinkerlaw03_same.f kj5 t220 t221 y244 t225 x1_5).bind fun t248 => (some t248)) else (some false)) = some r := H
          have A90 := Aside0.mk A900
          clear A900
          by_cases c91 : t247 = true
          ·
           subst c91
           have H1 : ((clinkerlaw03_same.f kj5 t220 t221 y244 t225 x1_5).bind fun t248 => (some t248)) = some r := by rw [if_pos rfl] at H; exact H
           clear H
           have H := H1
           clear H1
           replace H := Option.bind_eq_some_iff.mp H
           obtain ⟨t248, A920, H⟩ := H
           replace H : (some t248) = some r := H
           have A92 := Aside0.mk A920
           clear A920
           obtain rfl := Option.some.inj H
           have hcz93_0 : wc.cell? ⟨gb228, 0, none⟩ = some (.int .i64 t220) := (blk_cell BK228.out 0).trans rfl
           have hcz93_1 : wc.cell? ⟨gb228, 1, none⟩ = some (.int .i64 t221) := (blk_cell BK228.out 1).trans rfl
           have hcz93_2 : wc.cell? ⟨gb228, 2, none⟩ = some (.slice Ao10 t222.length co10) := (blk_cell BK228.out 2).trans rfl
           have hcz93_3 : wc.cell? ⟨gb228, 3, none⟩ = some (.slice Ao11 t225.length co11) := (blk_cell BK228.out 3).trans rfl
           have hfz93_0 := blk_frozen BK228.out 0
           have hfz93_1 := blk_frozen BK228.out 1
           have hfz93_2 := blk_frozen BK228.out 2
           have hfz93_3 := blk_frozen BK228.out 3
           go_wp2_with (first | ((with_reducible refine gate_callee (f := 13) rfl ?_); refine goesL_ (some 19) rfl rfl Try.func13 (by kernel_rfl) rfl #[.agg #[.int .i64 t220, .int .i64 t221, .slice Ao10 t222.length co10, .slice Ao11 t225.length co11], .string x1_5] rfl (by (try simp only [List.map_toArray, List.map_cons, List.map_nil]); first | done | rfl | (simp only [List.length_drop, List.length_take]; rfl)) ?_; (with_reducible refine (clinkerlaw03_same.calls kj5 t220 t221 _ _ t222 _ _ t225 x1_5 true _ ?side1 ?side2 ?side3 ?side4 A15.out).mono ?_); (case side1 => repeat (first | exact (Kd.R_reads' HO_229002.out).2.2 | (with_reducible refine Kd.C_alloc ?_ _) | (with_reducible refine Kd.C_drewN ?_ _) | (with_reducible refine Kd.C_drew ?_))); (case side2 => exact (Kd.R_reads' HO_229002.out).2.1); (case side3 => repeat (first | exact (Kd.R_reads' HO_229003.out).2.2 | (with_reducible refine Kd.C_alloc ?_ _) | (with_reducible refine Kd.C_drewN ?_ _) | (with_reducible refine Kd.C_drew ?_))); (case side4 => exact (Kd.R_reads' HO_229003.out).2.1); rintro e w94 ⟨rfl, hb⟩; refine ⟨_, rfl, ?_⟩; have n0_ := Aside0.mk (Kd.R_below (by (with_reducible repeat (first | apply Kd.R_alloc | apply Kd.R_drewN | apply Kd.R_drew)); exact HO_229002.out) hb); have n1_ := Aside0.mk (Kd.R_below (by (with_reducible repeat (first | apply Kd.R_alloc | apply Kd.R_drewN | apply Kd.R_drew)); exact HO_229003.out) hb); have n2_ := Aside0.mk (blk_below (g := gb228) (o := .cells #[.int .i64 t220, .int .i64 t221, .slice Ao10 t222.length co10, .slice Ao11 t225.length co11] 24 (0, 0)) (by (with_reducible repeat (first | refine blk_drewN ?_ _ | refine blk_drew ?_ | refine blk_alloc ?_ _)); exact BK228.out) hb); have n3_ := Aside0.mk (below_step (by repeat (first | (with_reducible first | exact HB.out | apply below_alloc | apply pw_below_drewN | apply below_drew1 | refine below_set ?_ GE228.out) | exact HB.out)) hb); clear HO_229002; clear HO_229003; clear BK228; clear HB; have HO_229002 := n0_; have HO_229003 := n1_; have BK228 := n2_; have HB := n3_; clear n0_ n1_ n2_ n3_; (try clear hb); (try clear hb2); (try clear hk); (try clear hi); have hcz95_0 : w94.cell? ⟨gb228, 0, none⟩ = some (.int .i64 t220) := (blk_cell BK228.out 0).trans rfl; have hcz95_1 : w94.cell? ⟨gb228, 1, none⟩ = some (.int .i64 t221) := (blk_cell BK228.out 1).trans rfl; have hcz95_2 : w94.cell? ⟨gb228, 2, none⟩ = some (.slice Ao10 t222.length co10) := (blk_cell BK228.out 2).trans rfl; have hcz95_3 : w94.cell? ⟨gb228, 3, none⟩ = some (.slice Ao11 t225.length co11) := (blk_cell BK228.out 3).trans rfl; have hfz95_0 := blk_frozen BK228.out 0; have hfz95_1 := blk_frozen BK228.out 1; have hfz95_2 := blk_frozen BK228.out 2; have hfz95_3 := blk_frozen BK228.out 3; have q96 : ((ji87) : Int) ≤ ((t222.length : Int) : Int) := of_decide_eq_true (by first | (with_reducible assumption) | assumption); obtain ⟨i096, hi096, _, hsz96, _⟩ := info_parts info3; have hcut96 := cut_to (P := Try.prog) 22 3 .i64 Try.underlying22 hi096 Ao10 t222.length co10 (ji87) (of_decide_eq_true (by first | (with_reducible assumption) | assumption)) q96 (Kd.R_reads' HO_229002.out).2.1; have hr96 := Kd.R_take (m := ((ji87) : Int).toNat) HO_229002.out (by omega); have hy96 : y244.length = ((ji87) : Int).toNat := (by rw [Ny244.out, List.length_take]; omega); rw [← Ny244.out] at hr96; rw [← hy96] at hr96 hcut96; clear hy96 hi096 hsz96 HO_229002; have HO246 := Aside0.mk hr96; clear hr96; replace q96 := eq_true q96) | ((with_reducible refine gate_callee (f := 11) rfl ?_); refine goesL_ (some 55) rfl rfl Try.func11 (by kernel_rfl) rfl #[] rfl (by (try simp only [List.map_toArray, List.map_cons, List.map_nil]); first | done | rfl | (simp only [List.length_drop, List.length_take]; rfl)) ?_; (with_reducible refine (clinkerlaw03_awake.calls  true _ A90.out).mono ?_); rintro e w97 ⟨rfl, hb⟩; refine ⟨_, rfl, ?_⟩; have n0_ := Aside0.mk (Kd.R_below (by (with_reducible repeat (first | apply Kd.R_alloc | apply Kd.R_drewN | apply Kd.R_drew)); exact (Kd.R_mono (Kd.R_far (p := ⟨gb228, 2, none⟩) (Kd.R_types HO246.out BK228.out (by decide)) (fun _ hk => hk.2) (.slice Ao10 y244.length co10)) (fun _ h_ => h_.1))) hb); have n1_ := Aside0.mk (Kd.R_below (by (with_reducible repeat (first | apply Kd.R_alloc | apply Kd.R_drewN | apply Kd.R_drew)); exact (Kd.R_mono (Kd.R_far (p := ⟨gb228, 2, none⟩) (Kd.R_types HO_229003.out BK228.out (by decide)) (fun _ hk => hk.2) (.slice Ao10 y244.length co10)) (fun _ h_ => h_.1))) hb); have n2_ := Aside0.mk (blk_below (g := gb228) (o := .cells #[.int .i64 t220, .int .i64 t221, .slice Ao10 y244.length co10, .slice Ao11 t225.length co11] 24 (0, 0)) (by (with_reducible repeat (first | refine blk_drewN ?_ _ | refine blk_drew ?_ | refine blk_alloc ?_ _)); refine blk_put (cs := #[.int .i64 t220, .int .i64 t221, .slice Ao10 t222.length co10, .slice Ao11 t225.length co11]) ?_ 2 _ rfl; (with_reducible repeat (first | refine blk_drewN ?_ _ | refine blk_drew ?_ | refine blk_alloc ?_ _)); exact BK228.out) hb); have n3_ := Aside0.mk (below_step (by repeat (first | (with_reducible first | exact HB.out | apply below_alloc | apply pw_below_drewN | apply below_drew1 | refine below_set ?_ GE228.out) | exact HB.out)) hb); clear HO246; clear HO_229003; clear BK228; clear HB; have HO246 := n0_; have HO_229003 := n1_; have BK228 := n2_; have HB := n3_; clear n0_ n1_ n2_ n3_; (try clear hb); (try clear hb2); (try clear hk); (try clear hi); have hcz98_0 : w97.cell? ⟨gb228, 0, none⟩ = some (.int .i64 t220) := (blk_cell BK228.out 0).trans rfl; have hcz98_1 : w97.cell? ⟨gb228, 1, none⟩ = some (.int .i64 t221) := (blk_cell BK228.out 1).trans rfl; have hcz98_2 : w97.cell? ⟨gb228, 2, none⟩ = some (.slice Ao10 y244.length co10) := (blk_cell BK228.out 2).trans rfl; have hcz98_3 : w97.cell? ⟨gb228, 3, none⟩ = some (.slice Ao11 t225.length co11) := (blk_cell BK228.out 3).trans rfl; have hfz98_0 := blk_frozen BK228.out 0; have hfz98_1 := blk_frozen BK228.out 1; have hfz98_2 := blk_frozen BK228.out 2; have hfz98_3 := blk_frozen BK228.out 3) | (go_at_call 13; (with_reducible refine (clinkerlaw03_same.calls kj5 t220 t221 _ _ y244 _ _ t225 x1_5 t248 _ ?side1 ?side2 ?side3 ?side4 A92.out).mono ?_); (case side1 => repeat (first | exact (Kd.R_reads' HO246.out).2.2 | (with_reducible refine Kd.C_alloc ?_ _) | (with_reducible refine Kd.C_drewN ?_ _) | (with_reducible refine Kd.C_drew ?_))); (case side2 => exact (Kd.R_reads' HO246.out).2.1); (case side3 => repeat (first | exact (Kd.R_reads' HO_229003.out).2.2 | (with_reducible refine Kd.C_alloc ?_ _) | (with_reducible refine Kd.C_drewN ?_ _) | (with_reducible refine Kd.C_drew ?_))); (case side4 => exact (Kd.R_reads' HO_229003.out).2.1); rintro e w99 ⟨rfl, hb⟩; have n0_ := Aside0.mk (Kd.R_below (by (with_reducible repeat (first | apply Kd.R_alloc | apply Kd.R_drewN | apply Kd.R_drew)); exact HO246.out) hb); have n1_ := Aside0.mk (Kd.R_below (by (with_reducible repeat (first | apply Kd.R_alloc | apply Kd.R_drewN | apply Kd.R_drew)); exact HO_229003.out) hb); have n2_ := Aside0.mk (blk_below (g := gb228) (o := .cells #[.int .i64 t220, .int .i64 t221, .slice Ao10 y244.length co10, .slice Ao11 t225.length co11] 24 (0, 0)) (by (with_reducible repeat (first | refine blk_drewN ?_ _ | refine blk_drew ?_ | refine blk_alloc ?_ _)); exact BK228.out) hb); have n3_ := Aside0.mk (below_step (by repeat (first | (with_reducible first | exact HB.out | apply below_alloc | apply pw_below_drewN | apply below_drew1 | refine below_set ?_ GE228.out) | exact HB.out)) hb); clear HO246; clear HO_229003; clear BK228; clear HB; have HO246 := n0_; have HO_229003 := n1_; have BK228 := n2_; have HB := n3_; clear n0_ n1_ n2_ n3_; (try clear hb); (try clear hb2); (try clear hk); (try clear hi)))
           go_ret
           exact ⟨by first | rfl | (simp [errW_none, errW_some] <;> rfl) | (simp only [← hji87]; first | rfl | (simp [errW_none, errW_some] <;> rfl)) | (simp [*, errW_none, errW_some] <;> rfl), by repeat (first | (with_reducible first | exact HB.out | apply below_alloc | apply pw_below_drewN | apply below_drew1 | refine below_set ?_ GE228.out) | exact HB.out)⟩
          ·
           replace c91 := Bool.eq_false_iff.mpr c91
           subst c91
           have H1 : (some false) = some r := by rw [if_neg (show ¬ (false = true) by decide)] at H; exact H
           clear H
           have H := H1
           clear H1
           obtain rfl := Option.some.inj H
           have hcz100_0 : wc.cell? ⟨gb228, 0, none⟩ = some (.int .i64 t220) := (blk_cell BK228.out 0).trans rfl
           have hcz100_1 : wc.cell? ⟨gb228, 1, none⟩ = some (.int .i64 t221) := (blk_cell BK228.out 1).trans rfl
           have hcz100_2 : wc.cell? ⟨gb228, 2, none⟩ = some (.slice Ao10 t222.length co10) := (blk_cell BK228.out 2).trans rfl
           have hcz100_3 : wc.cell? ⟨gb228, 3, none⟩ = some (.slice Ao11 t225.length co11) := (blk_cell BK228.out 3).trans rfl
           have hfz100_0 := blk_frozen BK228.out 0
           have hfz100_1 := blk_frozen BK228.out 1
           have hfz100_2 := blk_frozen BK228.out 2
           have hfz100_3 := blk_frozen BK228.out 3
           go_wp2_with (first | ((with_reducible refine gate_callee (f := 13) rfl ?_); refine goesL_ (some 19) rfl rfl Try.func13 (by kernel_rfl) rfl #[.agg #[.int .i64 t220, .int .i64 t221, .slice Ao10 t222.length co10, .slice Ao11 t225.length co11], .string x1_5] rfl (by (try simp only [List.map_toArray, List.map_cons, List.map_nil]); first | done | rfl | (simp only [List.length_drop, List.length_take]; rfl)) ?_; (with_reducible refine (clinkerlaw03_same.calls kj5 t220 t221 _ _ t222 _ _ t225 x1_5 true _ ?side1 ?side2 ?side3 ?side4 A15.out).mono ?_); (case side1 => repeat (first | exact (Kd.R_reads' HO_229002.out).2.2 | (with_reducible refine Kd.C_alloc ?_ _) | (with_reducible refine Kd.C_drewN ?_ _) | (with_reducible refine Kd.C_drew ?_))); (case side2 => exact (Kd.R_reads' HO_229002.out).2.1); (case side3 => repeat (first | exact (Kd.R_reads' HO_229003.out).2.2 | (with_reducible refine Kd.C_alloc ?_ _) | (with_reducible refine Kd.C_drewN ?_ _) | (with_reducible refine Kd.C_drew ?_))); (case side4 => exact (Kd.R_reads' HO_229003.out).2.1); rintro e w101 ⟨rfl, hb⟩; refine ⟨_, rfl, ?_⟩; have n0_ := Aside0.mk (Kd.R_below (by (with_reducible repeat (first | apply Kd.R_alloc | apply Kd.R_drewN | apply Kd.R_drew)); exact HO_229002.out) hb); have n1_ := Aside0.mk (Kd.R_below (by (with_reducible repeat (first | apply Kd.R_alloc | apply Kd.R_drewN | apply Kd.R_drew)); exact HO_229003.out) hb); have n2_ := Aside0.mk (blk_below (g := gb228) (o := .cells #[.int .i64 t220, .int .i64 t221, .slice Ao10 t222.length co10, .slice Ao11 t225.length co11] 24 (0, 0)) (by (with_reducible repeat (first | refine blk_drewN ?_ _ | refine blk_drew ?_ | refine blk_alloc ?_ _)); exact BK228.out) hb); have n3_ := Aside0.mk (below_step (by repeat (first | (with_reducible first | exact HB.out | apply below_alloc | apply pw_below_drewN | apply below_drew1 | refine below_set ?_ GE228.out) | exact HB.out)) hb); clear HO_229002; clear HO_229003; clear BK228; clear HB; have HO_229002 := n0_; have HO_229003 := n1_; have BK228 := n2_; have HB := n3_; clear n0_ n1_ n2_ n3_; (try clear hb); (try clear hb2); (try clear hk); (try clear hi); have hcz102_0 : w101.cell? ⟨gb228, 0, none⟩ = some (.int .i64 t220) := (blk_cell BK228.out 0).trans rfl; have hcz102_1 : w101.cell? ⟨gb228, 1, none⟩ = some (.int .i64 t221) := (blk_cell BK228.out 1).trans rfl; have hcz102_2 : w101.cell? ⟨gb228, 2, none⟩ = some (.slice Ao10 t222.length co10) := (blk_cell BK228.out 2).trans rfl; have hcz102_3 : w101.cell? ⟨gb228, 3, none⟩ = some (.slice Ao11 t225.length co11) := (blk_cell BK228.out 3).trans rfl; have hfz102_0 := blk_frozen BK228.out 0; have hfz102_1 := blk_frozen BK228.out 1; have hfz102_2 := blk_frozen BK228.out 2; have hfz102_3 := blk_frozen BK228.out 3; have q103 : ((ji87) : Int) ≤ ((t222.length : Int) : Int) := of_decide_eq_true (by first | (with_reducible assumption) | assumption); obtain ⟨i0103, hi0103, _, hsz103, _⟩ := info_parts info3; have hcut103 := cut_to (P := Try.prog) 22 3 .i64 Try.underlying22 hi0103 Ao10 t222.length co10 (ji87) (of_decide_eq_true (by first | (with_reducible assumption) | assumption)) q103 (Kd.R_reads' HO_229002.out).2.1; have hr103 := Kd.R_take (m := ((ji87) : Int).toNat) HO_229002.out (by omega); have hy103 : y244.length = ((ji87) : Int).toNat := (by rw [Ny244.out, List.length_take]; omega); rw [← Ny244.out] at hr103; rw [← hy103] at hr103 hcut103; clear hy103 hi0103 hsz103 HO_229002; have HO246 := Aside0.mk hr103; clear hr103; replace q103 := eq_true q103) | ((with_reducible refine gate_callee (f := 11) rfl ?_); refine goesL_ (some 55) rfl rfl Try.func11 (by kernel_rfl) rfl #[] rfl (by (try simp only [List.map_toArray, List.map_cons, List.map_nil]); first | done | rfl | (simp only [List.length_drop, List.length_take]; rfl)) ?_; (with_reducible refine (clinkerlaw03_awake.calls  false _ A90.out).mono ?_); rintro e w104 ⟨rfl, hb⟩; refine ⟨_, rfl, ?_⟩; have n0_ := Aside0.mk (Kd.R_below (by (with_reducible repeat (first | apply Kd.R_alloc | apply Kd.R_drewN | apply Kd.R_drew)); exact (Kd.R_mono (Kd.R_far (p := ⟨gb228, 2, none⟩) (Kd.R_types HO246.out BK228.out (by decide)) (fun _ hk => hk.2) (.slice Ao10 y244.length co10)) (fun _ h_ => h_.1))) hb); have n1_ := Aside0.mk (Kd.R_below (by (with_reducible repeat (first | apply Kd.R_alloc | apply Kd.R_drewN | apply Kd.R_drew)); exact (Kd.R_mono (Kd.R_far (p := ⟨gb228, 2, none⟩) (Kd.R_types HO_229003.out BK228.out (by decide)) (fun _ hk => hk.2) (.slice Ao10 y244.length co10)) (fun _ h_ => h_.1))) hb); have n2_ := Aside0.mk (blk_below (g := gb228) (o := .cells #[.int .i64 t220, .int .i64 t221, .slice Ao10 y244.length co10, .slice Ao11 t225.length co11] 24 (0, 0)) (by (with_reducible repeat (first | refine blk_drewN ?_ _ | refine blk_drew ?_ | refine blk_alloc ?_ _)); refine blk_put (cs := #[.int .i64 t220, .int .i64 t221, .slice Ao10 t222.length co10, .slice Ao11 t225.length co11]) ?_ 2 _ rfl; (with_reducible repeat (first | refine blk_drewN ?_ _ | refine blk_drew ?_ | refine blk_alloc ?_ _)); exact BK228.out) hb); have n3_ := Aside0.mk (below_step (by repeat (first | (with_reducible first | exact HB.out | apply below_alloc | apply pw_below_drewN | apply below_drew1 | refine below_set ?_ GE228.out) | exact HB.out)) hb); clear HO246; clear HO_229003; clear BK228; clear HB; have HO246 := n0_; have HO_229003 := n1_; have BK228 := n2_; have HB := n3_; clear n0_ n1_ n2_ n3_; (try clear hb); (try clear hb2); (try clear hk); (try clear hi)))
           go_ret
           exact ⟨by first | rfl | (simp [errW_none, errW_some] <;> rfl) | (simp only [← hji87]; first | rfl | (simp [errW_none, errW_some] <;> rfl)) | (simp [*, errW_none, errW_some] <;> rfl), by repeat (first | (with_reducible first | exact HB.out | apply below_alloc | apply pw_below_drewN | apply below_drew1 | refine below_set ?_ GE228.out) | exact HB.out)⟩
         ·
          rw [if_neg c89] at H
          exact absurd H (by simp)
        ·
         rw [if_neg c88] at H
         exact absurd H (by simp)
   ·
    replace c16 := Bool.eq_false_iff.mpr c16
    subst c16
    have H1 : (some false) = some r := by rw [if_neg (show ¬ (false = true) by decide)] at H; exact H
    clear H
    have H := H1
    clear H1
    obtain rfl := Option.some.inj H
    have hcz105_0 : wc.cell? ⟨gb228, 0, none⟩ = some (.int .i64 t220) := (blk_cell BK228.out 0).trans rfl
    have hcz105_1 : wc.cell? ⟨gb228, 1, none⟩ = some (.int .i64 t221) := (blk_cell BK228.out 1).trans rfl
    have hcz105_2 : wc.cell? ⟨gb228, 2, none⟩ = some (.slice Ao10 t222.length co10) := (blk_cell BK228.out 2).trans rfl
    have hcz105_3 : wc.cell? ⟨gb228, 3, none⟩ = some (.slice Ao11 t225.length co11) := (blk_cell BK228.out 3).trans rfl
    have hfz105_0 := blk_frozen BK228.out 0
    have hfz105_1 := blk_frozen BK228.out 1
    have hfz105_2 := blk_frozen BK228.out 2
    have hfz105_3 := blk_frozen BK228.out 3
    go_wp2_with (first | ((with_reducible refine gate_callee (f := 13) rfl ?_); refine goesL_ (some 19) rfl rfl Try.func13 (by kernel_rfl) rfl #[.agg #[.int .i64 t220, .int .i64 t221, .slice Ao10 t222.length co10, .slice Ao11 t225.length co11], .string x1_5] rfl (by (try simp only [List.map_toArray, List.map_cons, List.map_nil]); first | done | rfl | (simp only [List.length_drop, List.length_take]; rfl)) ?_; (with_reducible refine (clinkerlaw03_same.calls kj5 t220 t221 _ _ t222 _ _ t225 x1_5 false _ ?side1 ?side2 ?side3 ?side4 A15.out).mono ?_); (case side1 => repeat (first | exact (Kd.R_reads' HO_229002.out).2.2 | (with_reducible refine Kd.C_alloc ?_ _) | (with_reducible refine Kd.C_drewN ?_ _) | (with_reducible refine Kd.C_drew ?_))); (case side2 => exact (Kd.R_reads' HO_229002.out).2.1); (case side3 => repeat (first | exact (Kd.R_reads' HO_229003.out).2.2 | (with_reducible refine Kd.C_alloc ?_ _) | (with_reducible refine Kd.C_drewN ?_ _) | (with_reducible refine Kd.C_drew ?_))); (case side4 => exact (Kd.R_reads' HO_229003.out).2.1); rintro e w106 ⟨rfl, hb⟩; refine ⟨_, rfl, ?_⟩; have n0_ := Aside0.mk (Kd.R_below (by (with_reducible repeat (first | apply Kd.R_alloc | apply Kd.R_drewN | apply Kd.R_drew)); exact HO_229002.out) hb); have n1_ := Aside0.mk (Kd.R_below (by (with_reducible repeat (first | apply Kd.R_alloc | apply Kd.R_drewN | apply Kd.R_drew)); exact HO_229003.out) hb); have n2_ := Aside0.mk (blk_below (g := gb228) (o := .cells #[.int .i64 t220, .int .i64 t221, .slice Ao10 t222.length co10, .slice Ao11 t225.length co11] 24 (0, 0)) (by (with_reducible repeat (first | refine blk_drewN ?_ _ | refine blk_drew ?_ | refine blk_alloc ?_ _)); exact BK228.out) hb); have n3_ := Aside0.mk (below_step (by repeat (first | (with_reducible first | exact HB.out | apply below_alloc | apply pw_below_drewN | apply below_drew1 | refine below_set ?_ GE228.out) | exact HB.out)) hb); clear HO_229002; clear HO_229003; clear BK228; clear HB; have HO_229002 := n0_; have HO_229003 := n1_; have BK228 := n2_; have HB := n3_; clear n0_ n1_ n2_ n3_; (try clear hb); (try clear hb2); (try clear hk); (try clear hi)))
    go_ret
    exact ⟨by first | rfl | (simp [errW_none, errW_some] <;> rfl) | (simp [*, errW_none, errW_some] <;> rfl), by repeat (first | (with_reducible first | exact HB.out | apply below_alloc | apply pw_below_drewN | apply below_drew1 | refine below_set ?_ GE228.out) | exact HB.out)⟩

/-- THE ONE PURE STATEMENT of clinkerlaw03_TagMade: yours. -/
def clinkerlaw03_TagMade.Pure : Prop := ∀ (l0 : List Int) (a1 : ByteArray) (a2 : Int) (a3 : Int), l0.length ≤ maxLen → l0.length * 2 ≤ 140737488351232 → (∀ x ∈ l0, (Lit.int .u16 x).wf = true) → a1.size ≤ 140737488351232 → (Lit.int .u8 a2).wf = true → (Lit.int .i64 a3).wf = true → ∃ k, clinkerlaw03_TagMade.f k l0 a1 a2 a3 = some true
theorem clinkerlaw03_TagMade.walk (P : clinkerlaw03_TagMade.Pure) (a0 : Option Addr) (len0 cap0 : Nat) (z0 : List Int) (a1 : ByteArray) (a2 : Int) (a3 : Int) (w : World) (w0 : (a0 = none ∧ len0 = 0 ∧ cap0 = 0 ∧ z0 = []) ∨ ∃ x, a0 = some x ∧ len0 ≤ cap0 ∧ cap0 ≤ maxLen ∧ z0.length = cap0 ∧ (∀ i, i < z0.length → w.cell? (x.add i) = some (.int .u16 (z0.getD i 0))) ∧ ∀ n ∈ z0, (Lit.int .u16 n).wf = true) (y0 : len0 * 2 ≤ 140737488351232) (w1 : a1.size ≤ 140737488351232) (w2 : (Lit.int .u8 a2).wf = true) (w3 : (Lit.int .i64 a3).wf = true) :
  Calls Try.prog 4 #[.slice a0 len0 cap0, .string a1, .int .u8 a2, .int .i64 a3] w fun e w' => e = .returned (.bool true) ∧ Below w.heap.size w w' := by
 obtain ⟨l0, rfl, hr0, hm0, hw0, hc0⟩ := ReadsInt.ofRowC w0
 obtain ⟨k, h⟩ := P l0 a1 a2 a3 hm0 y0 hw0 w1 w2 w3
 refine (clinkerlaw03_TagMade.calls k _ _ l0 a1 a2 a3 true w (Kd.C_of_reads (d := (0 : Int)) (h1 := fun _ => rfl) hr0) hc0 h).mono ?_
 rintro e w' ⟨rfl, hd⟩
 exact ⟨rfl, hd⟩

/-! ### clinkerref02_Take: function 40 -/
mutual
def clinkerref02_Take.l0 : Nat → ByteArray → Int → Int → Int → Option (Int × ByteArray × Bool)
 | 0, _, _, _, _ => none
 | k + 1, x0, x5, x6, x7 => if x7 < (x0.size : Int) then (clinkerref02_Take.j1 k x0 x5 x6 x7 (decide (x7 < 6))) else (clinkerref02_Take.j1 k x0 x5 x6 x7 false)
def clinkerref02_Take.j1 : Nat → ByteArray → Int → Int → Int → Bool → Option (Int × ByteArray × Bool)
 | 0, _, _, _, _, _ => none
 | k + 1, x0, x5, x6, x7, x16 => if x16 = true then (if 0 ≤ x7 then (if x7 < (x0.size : Int) then (if (wrap64 (bt x0 x7)) < 128 then (if (wrap64 (x5 + (wrap64 ((Int.tmod (wrap64 (bt x0 x7)) 128) * x6)))) > 1099511627776 then (some (0, (⟨#[]⟩ : ByteArray), false)) else (if x7 > 0 then (if (wrap64 (bt x0 x7)) = 0 then (some (0, (⟨#[]⟩ : ByteArray), false)) else (if 0 ≤ (wrap64 (x7 + 1)) then (if (wrap64 (x7 + 1)) ≤ (x0.size : Int) then (some (wrap64 (x5 + (wrap64 ((Int.tmod (wrap64 (bt x0 x7)) 128) * x6))), x0.extract ((wrap64 (x7 + 1)) : Int).toNat x0.size, true)) else (none)) else (none))) else (if 0 ≤ (wrap64 (x7 + 1)) then (if (wrap64 (x7 + 1)) ≤ (x0.size : Int) then (some (wrap64 (x5 + (wrap64 ((Int.tmod (wrap64 (bt x0 x7)) 128) * x6))), x0.extract ((wrap64 (x7 + 1)) : Int).toNat x0.size, true)) else (none)) else (none)))) else (clinkerref02_Take.l0 k x0 (wrap64 (x5 + (wrap64 ((Int.tmod (wrap64 (bt x0 x7)) 128) * x6)))) (wrap64 (x6 * 128)) (wrap64 (x7 + 1)))) else (none)) else (none)) else (some (0, (⟨#[]⟩ : ByteArray), false))
end
def clinkerref02_Take.f (k : Nat) (a0 : ByteArray) : Option (Int × ByteArray × Bool) := clinkerref02_Take.l0 k a0 0 1 0
theorem clinkerref02_Take.mono_l : ∀ k, (∀ y0 y1 y2 y3, LeO (clinkerref02_Take.l0 k y0 y1 y2 y3) (clinkerref02_Take.l0 (k + 1) y0 y1 y2 y3)) ∧ (∀ y0 y1 y2 y3 y4, LeO (clinkerref02_Take.j1 k y0 y1 y2 y3 y4) (clinkerref02_Take.j1 (k + 1) y0 y1 y2 y3 y4))
 | 0 => ⟨fun _ _ _ _ r h => by simp [clinkerref02_Take.l0] at h, fun _ _ _ _ _ r h => by simp [clinkerref02_Take.j1] at h⟩
 | k + 1 => by
  obtain ⟨ih0, ih1⟩ := clinkerref02_Take.mono_l k
  refine ⟨?_, ?_⟩
  ·
   intro y0 y1 y2 y3
   unfold clinkerref02_Take.l0
   repeat' first
   | (with_reducible exact ih0 _ _ _ _)
   | (with_reducible exact ih1 _ _ _ _ _)
   | (with_reducible exact LeO.refl _)
   | (with_reducible exact LeO.none _)
   | (with_reducible refine LeO.ite ?_ ?_)
   | (with_reducible refine LeO.bind ?_ (fun _ => ?_))
   | exact ih0 _ _ _ _
   | exact ih1 _ _ _ _ _
   | exact LeO.none _
   | refine LeO.ite ?_ ?_
   | refine LeO.bind ?_ (fun _ => ?_)
  ·
   intro y0 y1 y2 y3 y4
   unfold clinkerref02_Take.j1
   repeat' first
   | (with_reducible exact ih0 _ _ _ _)
   | (with_reducible exact ih1 _ _ _ _ _)
   | (with_reducible exact LeO.refl _)
   | (with_reducible exact LeO.none _)
   | (with_reducible refine LeO.ite ?_ ?_)
   | (with_reducible refine LeO.bind ?_ (fun _ => ?_))
   | exact ih0 _ _ _ _
   | exact ih1 _ _ _ _ _
   | exact LeO.none _
   | refine LeO.ite ?_ ?_
   | refine LeO.bind ?_ (fun _ => ?_)
theorem clinkerref02_Take.mono : ∀ a0 k, LeO (clinkerref02_Take.f k a0) (clinkerref02_Take.f (k + 1) a0) := by
 intro a0 k
 obtain ⟨ih0, ih1⟩ := clinkerref02_Take.mono_l k
 unfold clinkerref02_Take.f
 repeat' first
   | (with_reducible exact ih0 _ _ _ _)
   | (with_reducible exact ih1 _ _ _ _ _)
   | (with_reducible exact LeO.refl _)
   | (with_reducible exact LeO.none _)
   | (with_reducible refine LeO.ite ?_ ?_)
   | (with_reducible refine LeO.bind ?_ (fun _ => ?_))
   | exact ih0 _ _ _ _
   | exact ih1 _ _ _ _ _
   | exact LeO.none _
   | refine LeO.ite ?_ ?_
   | refine LeO.bind ?_ (fun _ => ?_)
set_option maxHeartbeats 8000000 in
set_option maxRecDepth 100000 in
theorem clinkerref02_Take.calls (k : Nat) (a0 : ByteArray) (r1 : Int) (r2 : ByteArray) (r3 : Bool) (w : World) (h : clinkerref02_Take.f k a0 = some (r1, r2, r3)) :
  Calls Try.prog 40 #[.string a0] w fun e w' => e = .returned (.tuple #[.int .i64 r1, .string r2, .bool r3]) ∧ Drawn0 w w' := by
 have H : (clinkerref02_Take.l0 k a0 0 1 0) = some (r1, r2, r3) := h
 clear h
 have H' := Aside0.mk H
 clear H
 go_enter Try.func40, Try.ntmps40
 go_wp2
 repeat (go_quiet (fail); try go_wp2)
 go_loopg [5, 6, 7] k (fun kq v5 v6 v7 w' => ∃ (x5_1 : Int) (x6_1 : Int) (x7_1 : Int), v5 = .int .i64 x5_1 ∧ v6 = .int .i64 x6_1 ∧ v7 = .int .i64 x7_1 ∧ Aside0 (clinkerref02_Take.l0 kq a0 x5_1 x6_1 x7_1 = some (r1, r2, r3)) ∧ Aside0 (kq ≤ k) ∧ Drawn0 w w')
 case atStart => exact ⟨(0), (1), (0), (by first | rfl | (simp; done) | (simp [*]; done)), (by first | rfl | (simp; done) | (simp [*]; done)), (by first | rfl | (simp; done) | (simp [*]; done)), H', ⟨Nat.le_refl _⟩, by repeat (first | exact Drawn0.refl _ | apply Drawn0.step)⟩
 case round =>
  clear H'
  obtain ⟨x5_1, x6_1, x7_1, rfl, rfl, rfl, HA, HK1, ⟨m1, rfl⟩⟩ := hrel
  cases gk with
  | zero => exact absurd HA.out (by simp [clinkerref02_Take.l0])
  | succ k1 =>
   have H := HA.out
   clear HA
   simp only [clinkerref02_Take.l0] at H
   have HC2 := Aside0.mk H
   clear H
   go_upto_region 3 with (fail)
   repeat (go_quiet (fail); go_upto_region 3 with (fail))
   go_cut [16] (fun v16 wc => ∃ (kq : Nat) (x16_1 : Bool), v16 = .bool x16_1 ∧ Aside0 (clinkerref02_Take.j1 kq a0 x5_1 x6_1 x7_1 x16_1 = some (r1, r2, r3)) ∧ Aside0 (kq ≤ k1) ∧ Drawn0 w wc)
   case first =>
    have H := HC2.out
    clear HC2
    by_cases c3 : x7_1 < (a0.size : Int)
    ·
     rw [if_pos c3] at H
     have c3b0 : decide (x7_1 < (a0.size : Int)) = true := decide_eq_true c3
     clear c3
     (first | rw [c3b0] | (simp only [i64_w, i32_w]; rw [c3b0]) | skip)
     have H' := Aside0.mk H
     clear H
     go_wp2
     repeat (go_quiet (fail); try go_wp2)
     go_meet
     case rel => exact ⟨_, (decide (x7_1 < 6)), (by first | rfl | (simp; done) | (simp [*]; done)), H', ⟨by have := HK1.out; first | omega | exact Nat.le_refl _⟩, by repeat (first | exact Drawn0.refl _ | apply Drawn0.step)⟩
    ·
     rw [if_neg c3] at H
     have c3b0 : decide (x7_1 < (a0.size : Int)) = false := decide_eq_false c3
     clear c3
     (first | rw [c3b0] | (simp only [i64_w, i32_w]; rw [c3b0]) | skip)
     have H' := Aside0.mk H
     clear H
     go_wp2
     repeat (go_quiet (fail); try go_wp2)
     go_meet
     case rel => exact ⟨_, (false), (by first | rfl | (simp; done) | (simp [*]; done)), H', ⟨by have := HK1.out; first | omega | exact Nat.le_refl _⟩, by repeat (first | exact Drawn0.refl _ | apply Drawn0.step)⟩
   case rest =>
    clear HC2
    try clear p2
    try clear c3
    try clear c3b0
    obtain ⟨kq, x16_1, rfl, HA, HJ1, ⟨mc1, rfl⟩⟩ := hcut
    cases kq with
    | zero => exact absurd HA.out (by simp [clinkerref02_Take.j1])
    | succ kj1 =>
     have H := HA.out
     clear HA
     simp only [clinkerref02_Take.j1] at H
     by_cases c4 : x16_1 = true
     ·
      subst c4
      have H1 : (if 0 ≤ x7_1 then (if x7_1 < (a0.size : Int) then (if (wrap64 (bt a0 x7_1)) < 128 then (if (wrap64 (x5_1 + (wrap64 ((Int.tmod (wrap64 (bt a0 x7_1)) 128) * x6_1)))) > 1099511627776 then (some (0, (⟨#[]⟩ : ByteArray), false)) else (if x7_1 > 0 then (if (wrap64 (bt a0 x7_1)) = 0 then (some (0, (⟨#[]⟩ : ByteArray), false)) else (if 0 ≤ (wrap64 (x7_1 + 1)) then (if (wrap64 (x7_1 + 1)) ≤ (a0.size : Int) then (some (wrap64 (x5_1 + (wrap64 ((Int.tmod (wrap64 (bt a0 x7_1)) 128) * x6_1))), a0.extract ((wrap64 (x7_1 + 1)) : Int).toNat a0.size, true)) else (none)) else (none))) else (if 0 ≤ (wrap64 (x7_1 + 1)) then (if (wrap64 (x7_1 + 1)) ≤ (a0.size : Int) then (some (wrap64 (x5_1 + (wrap64 ((Int.tmod (wrap64 (bt a0 x7_1)) 128) * x6_1))), a0.extract ((wrap64 (x7_1 + 1)) : Int).toNat a0.size, true)) else (none)) else (none)))) else (clinkerref02_Take.l0 kj1 a0 (wrap64 (x5_1 + (wrap64 ((Int.tmod (wrap64 (bt a0 x7_1)) 128) * x6_1)))) (wrap64 (x6_1 * 128)) (wrap64 (x7_1 + 1)))) else (none)) else (none)) = some (r1, r2, r3) := by rw [if_pos rfl] at H; exact H
      clear H
      have H := H1
      clear H1
      by_cases c5 : 0 ≤ x7_1
      ·
       rw [if_pos c5] at H
       have c5b0 : decide (0 ≤ x7_1) = true := decide_eq_true c5
       clear c5
       by_cases c6 : x7_1 < (a0.size : Int)
       ·
        rw [if_pos c6] at H
        have c6b0 : decide (x7_1 < (a0.size : Int)) = true := decide_eq_true c6
        clear c6
        by_cases c8 : (wrap64 (bt a0 x7_1)) < 128
        ·
         rw [if_pos c8] at H
         have c8b0 : decide ((wrap64 (bt a0 x7_1)) < 128) = true := decide_eq_true c8
         clear c8
         by_cases c9 : (wrap64 (x5_1 + (wrap64 ((Int.tmod (wrap64 (bt a0 x7_1)) 128) * x6_1)))) > 1099511627776
         ·
          rw [if_pos c9] at H
          have c9b0 : decide (1099511627776 < (wrap64 (x5_1 + (wrap64 ((Int.tmod (wrap64 (bt a0 x7_1)) 128) * x6_1))))) = true := decide_eq_true c9
          clear c9
          simp only [Option.some.injEq, Prod.mk.injEq] at H
          obtain ⟨rfl, rfl, rfl⟩ := H
          have p7 : 0 ≤ (x7_1 : Int) := of_decide_eq_true (by first | (with_reducible assumption) | assumption)
          have q7 : x7_1 < (a0.size : Int) := of_decide_eq_true (by first | (with_reducible assumption) | assumption)
          have hx7 := bt_at a0 x7_1
          replace p7 := eq_true p7
          replace q7 := eq_true q7
          go_wp2
          repeat (go_quiet (fail); try go_wp2)
          go_ret3
          exact ⟨by first | rfl | (simp; done) | (simp [*]; done), by repeat (first | exact Drawn0.refl _ | apply Drawn0.step)⟩
         ·
          rw [if_neg c9] at H
          have c9b0 : decide (1099511627776 < (wrap64 (x5_1 + (wrap64 ((Int.tmod (wrap64 (bt a0 x7_1)) 128) * x6_1))))) = false := decide_eq_false c9
          clear c9
          by_cases c10 : x7_1 > 0
          ·
           rw [if_pos c10] at H
           have c10b0 : decide (0 < x7_1) = true := decide_eq_true c10
           clear c10
           by_cases c11 : (wrap64 (bt a0 x7_1)) = 0
           ·
            rw [if_pos c11] at H
            have c11b0 : ((wrap64 (bt a0 x7_1)) == 0) = true := beq_iff_eq.mpr c11
            have c11b1 : ((wrap64 (bt a0 x7_1)) != 0) = false := bne_eq_false_iff_eq.mpr c11
            clear c11
            simp only [Option.some.injEq, Prod.mk.injEq] at H
            obtain ⟨rfl, rfl, rfl⟩ := H
            have p7 : 0 ≤ (x7_1 : Int) := of_decide_eq_true (by first | (with_reducible assumption) | assumption)
            have q7 : x7_1 < (a0.size : Int) := of_decide_eq_true (by first | (with_reducible assumption) | assumption)
            have hx7 := bt_at a0 x7_1
            replace p7 := eq_true p7
            replace q7 := eq_true q7
            go_wp2
            repeat (go_quiet (fail); try go_wp2)
            go_ret3
            exact ⟨by first | rfl | (simp; done) | (simp [*]; done), by repeat (first | exact Drawn0.refl _ | apply Drawn0.step)⟩
           ·
            rw [if_neg c11] at H
            have c11b0 : ((wrap64 (bt a0 x7_1)) == 0) = false := beq_eq_false_iff_ne.mpr c11
            have c11b1 : ((wrap64 (bt a0 x7_1)) != 0) = true := bne_iff_ne.mpr c11
            obtain ⟨ji12, hji12⟩ : ∃ j_ : Int, (wrap64 (x7_1 + 1)) = j_ := ⟨_, rfl⟩
            replace H : (if 0 ≤ (ji12) then (if (ji12) ≤ (a0.size : Int) then (some (wrap64 (x5_1 + (wrap64 ((Int.tmod (wrap64 (bt a0 x7_1)) 128) * x6_1))), a0.extract ((ji12) : Int).toNat a0.size, true)) else (none)) else (none)) = some (r1, r2, r3) := by first | (rw [hji12] at H; exact H) | (simp only [hji12] at H ⊢; exact H)
            have hji12w : (IntKind.i64.wrap (x7_1 + 1)) = ji12 := (i64_w _).trans hji12
            by_cases c13 : 0 ≤ (ji12)
            ·
             rw [if_pos c13] at H
             have c13b0 := eq_true c13
             have c13b1 : decide (0 ≤ (ji12)) = true := decide_eq_true c13
             clear c13
             by_cases c14 : (ji12) ≤ (a0.size : Int)
             ·
              rw [if_pos c14] at H
              have c14b0 := eq_true c14
              have c14b1 : decide ((ji12) ≤ (a0.size : Int)) = true := decide_eq_true c14
              clear c14
              simp only [Option.some.injEq, Prod.mk.injEq] at H
              obtain ⟨rfl, rfl, rfl⟩ := H
              have p7 : 0 ≤ (x7_1 : Int) := of_decide_eq_true (by first | (with_reducible assumption) | assumption)
              have q7 : x7_1 < (a0.size : Int) := of_decide_eq_true (by first | (with_reducible assumption) | assumption)
              have hx7 := bt_at a0 x7_1
              replace p7 := eq_true p7
              replace q7 := eq_true q7
              go_wp2
              repeat (go_quiet (fail); try go_wp2)
              go_ret3
              exact ⟨by first | rfl | (simp; done) | (simp only [← hji12] <;> (first | rfl | simp)) | (simp [*]; done), by repeat (first | exact Drawn0.refl _ | apply Drawn0.step)⟩
             ·
              rw [if_neg c14] at H
              exact absurd H (by simp)
            ·
             rw [if_neg c13] at H
             exact absurd H (by simp)
          ·
           rw [if_neg c10] at H
           have c10b0 : decide (0 < x7_1) = false := decide_eq_false c10
           clear c10
           obtain ⟨ji15, hji15⟩ : ∃ j_ : Int, (wrap64 (x7_1 + 1)) = j_ := ⟨_, rfl⟩
           replace H : (if 0 ≤ (ji15) then (if (ji15) ≤ (a0.size : Int) then (some (wrap64 (x5_1 + (wrap64 ((Int.tmod (wrap64 (bt a0 x7_1)) 128) * x6_1))), a0.extract ((ji15) : Int).toNat a0.size, true)) else (none)) else (none)) = some (r1, r2, r3) := by first | (rw [hji15] at H; exact H) | (simp only [hji15] at H ⊢; exact H)
           have hji15w : (IntKind.i64.wrap (x7_1 + 1)) = ji15 := (i64_w _).trans hji15
           by_cases c16 : 0 ≤ (ji15)
           ·
            rw [if_pos c16] at H
            have c16b0 := eq_true c16
            have c16b1 : decide (0 ≤ (ji15)) = true := decide_eq_true c16
            clear c16
            by_cases c17 : (ji15) ≤ (a0.size : Int)
            ·
             rw [if_pos c17] at H
             have c17b0 := eq_true c17
             have c17b1 : decide ((ji15) ≤ (a0.size : Int)) = true := decide_eq_true c17
             clear c17
             simp only [Option.some.injEq, Prod.mk.injEq] at H
             obtain ⟨rfl, rfl, rfl⟩ := H
             have p7 : 0 ≤ (x7_1 : Int) := of_decide_eq_true (by first | (with_reducible assumption) | assumption)
             have q7 : x7_1 < (a0.size : Int) := of_decide_eq_true (by first | (with_reducible assumption) | assumption)
             have hx7 := bt_at a0 x7_1
             replace p7 := eq_true p7
             replace q7 := eq_true q7
             go_wp2
             repeat (go_quiet (fail); try go_wp2)
             go_ret3
             exact ⟨by first | rfl | (simp; done) | (simp only [← hji15] <;> (first | rfl | simp)) | (simp [*]; done), by repeat (first | exact Drawn0.refl _ | apply Drawn0.step)⟩
            ·
             rw [if_neg c17] at H
             exact absurd H (by simp)
           ·
            rw [if_neg c16] at H
            exact absurd H (by simp)
        ·
         rw [if_neg c8] at H
         have c8b0 : decide ((wrap64 (bt a0 x7_1)) < 128) = false := decide_eq_false c8
         clear c8
         have H' := Aside0.mk H
         clear H
         have p7 : 0 ≤ (x7_1 : Int) := of_decide_eq_true (by first | (with_reducible assumption) | assumption)
         have q7 : x7_1 < (a0.size : Int) := of_decide_eq_true (by first | (with_reducible assumption) | assumption)
         have hx7 := bt_at a0 x7_1
         replace p7 := eq_true p7
         replace q7 := eq_true q7
         go_wp2
         repeat (go_quiet (fail); try go_wp2)
         go_roundg kj1
         case measure => have := HK1.out; have := HJ1.out; omega
         case rel => exact ⟨(wrap64 (x5_1 + (wrap64 ((Int.tmod (wrap64 (bt a0 x7_1)) 128) * x6_1)))), (wrap64 (x6_1 * 128)), (wrap64 (x7_1 + 1)), (by first | rfl | (simp; done) | (simp [*]; done)), (by first | rfl | (simp; done) | (simp [*]; done)), (by first | rfl | (simp; done) | (simp [*]; done)), H', ⟨by have := HK1.out; have := HJ1.out; omega⟩, by repeat (first | exact Drawn0.refl _ | apply Drawn0.step)⟩
       ·
        rw [if_neg c6] at H
        exact absurd H (by simp)
      ·
       rw [if_neg c5] at H
       exact absurd H (by simp)
     ·
      replace c4 := Bool.eq_false_iff.mpr c4
      subst c4
      have H1 : (some (0, (⟨#[]⟩ : ByteArray), false)) = some (r1, r2, r3) := by rw [if_neg (show ¬ (false = true) by decide)] at H; exact H
      clear H
      have H := H1
      clear H1
      simp only [Option.some.injEq, Prod.mk.injEq] at H
      obtain ⟨rfl, rfl, rfl⟩ := H
      go_wp2
      repeat (go_quiet (fail); try go_wp2)
      go_ret3
      exact ⟨by first | rfl | (simp; done) | (simp [*]; done), by repeat (first | exact Drawn0.refl _ | apply Drawn0.step)⟩

end Go.Proofs.Ytejhgjmapnmigaa.PAll
