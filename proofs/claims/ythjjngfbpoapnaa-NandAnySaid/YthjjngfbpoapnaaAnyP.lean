/- Written by a program of this session (wip/xp) out of the translation: functions in plain Lean, and proofs that the calls come to these. -/
import Derived.Test.YthjjngfbpoapnaaPAllx0
import Derived.Test.YthjjngfbpoapnaaPAllx1
import Derived.Test.YthjjngfbpoapnaaSameP
namespace Go.Proofs.Ythjjngfbpoapnaa.PAll
open Go.RowKit Go.Proofs.YthjjngfbpoapnaaW.PrintWords Go.Proofs.YthjjngfbpoapnaaW.PrintLast Go.Proofs.YthjjngfbpoapnaaW.PrintMore
attribute [local go_sem] max2_int min2_int max_two min_two max_three min_three max_four min_four   -- for this text's walks alone
set_option linter.unusedVariables false
set_option linter.unusedSimpArgs false

/-! ### clinkerlaw05_NandAny: function 5 -/
def clinkerlaw05_NandAny.l0 : Nat → Int → Int → Int → List (S44) → Bool → Bool → Int → Bool → ByteArray → ByteArray → Int → ByteArray → ByteArray → Int → Option (Bool)
 | 0, _, _, _, _, _, _, _, _, _, _, _, _, _, _ => none
 | k + 1, x1, x2, x11, x552000, x552001, x552002, x552003, x553000, x553001, x553002, x554000, x554001, x554002, x554003 => if x11 < (x552000.length : Int) then (if 0 ≤ x11 then (if (((rd_T44 x552000 x11).f0).length : Int) > 40 then ((clinkerlaw05_awake.f).bind fun t556 => (some t556)) else (clinkerlaw05_NandAny.l0 k x1 x2 (wrap64 (x11 + 1)) x552000 x552001 x552002 x552003 x553000 x553001 x553002 x554000 x554001 x554002 x554003)) else (none)) else ((clinkerlaw05_awake.f).bind fun t557 => (if t557 = true then ((clinkerlaw05_same.f x552000 x552001 x552002 x552003 x1 x2 x553000 x553001 x553002 x554000 x554001 x554002 x554003).bind fun t558 => (some t558)) else (some false)))
def clinkerlaw05_NandAny.f (k : Nat) (l0_0 : List (S44)) (a0_1 : Bool) (a0_2 : Bool) (a0_3 : Int) (a1 : Int) (a2 : Int) (a3_0 : Bool) (a3_1 : ByteArray) (a3_2 : ByteArray) (a4_0 : Int) (a4_1 : ByteArray) (a4_2 : ByteArray) (a4_3 : Int) : Option (Bool) := if (l0_0.length : Int) > 40 then ((clinkerlaw05_awake.f).bind fun t554 => (some t554)) else (clinkerlaw05_NandAny.l0 k a1 a2 0 l0_0 a0_1 a0_2 a0_3 a3_0 a3_1 a3_2 a4_0 a4_1 a4_2 a4_3)
theorem clinkerlaw05_NandAny.mono_l : ∀ k, (∀ y0 y1 y2 y3 y4 y5 y6 y7 y8 y9 y10 y11 y12 y13, LeO (clinkerlaw05_NandAny.l0 k y0 y1 y2 y3 y4 y5 y6 y7 y8 y9 y10 y11 y12 y13) (clinkerlaw05_NandAny.l0 (k + 1) y0 y1 y2 y3 y4 y5 y6 y7 y8 y9 y10 y11 y12 y13))
 | 0 => fun _ _ _ _ _ _ _ _ _ _ _ _ _ _ r h => by simp [clinkerlaw05_NandAny.l0] at h
 | k + 1 => by
  have ih0 := clinkerlaw05_NandAny.mono_l k
  ·
   intro y0 y1 y2 y3 y4 y5 y6 y7 y8 y9 y10 y11 y12 y13
   unfold clinkerlaw05_NandAny.l0
   repeat' first
   | (with_reducible exact ih0 _ _ _ _ _ _ _ _ _ _ _ _ _ _)
   | (with_reducible exact LeO.refl _)
   | (with_reducible exact LeO.none _)
   | (with_reducible refine LeO.ite ?_ ?_)
   | (with_reducible refine LeO.bind ?_ (fun _ => ?_))
   | exact ih0 _ _ _ _ _ _ _ _ _ _ _ _ _ _
   | exact LeO.none _
   | refine LeO.ite ?_ ?_
   | refine LeO.bind ?_ (fun _ => ?_)
theorem clinkerlaw05_NandAny.mono : ∀ a0 a1 a2 a3 a4 a5 a6 a7 a8 a9 a10 a11 a12 k, LeO (clinkerlaw05_NandAny.f k a0 a1 a2 a3 a4 a5 a6 a7 a8 a9 a10 a11 a12) (clinkerlaw05_NandAny.f (k + 1) a0 a1 a2 a3 a4 a5 a6 a7 a8 a9 a10 a11 a12) := by
 intro a0 a1 a2 a3 a4 a5 a6 a7 a8 a9 a10 a11 a12 k
 have ih0 := clinkerlaw05_NandAny.mono_l k
 unfold clinkerlaw05_NandAny.f
 repeat' first
   | (with_reducible exact ih0 _ _ _ _ _ _ _ _ _ _ _ _ _ _)
   | (with_reducible exact LeO.refl _)
   | (with_reducible exact LeO.none _)
   | (with_reducible refine LeO.ite ?_ ?_)
   | (with_reducible refine LeO.bind ?_ (fun _ => ?_))
   | exact ih0 _ _ _ _ _ _ _ _ _ _ _ _ _ _
   | exact LeO.none _
   | refine LeO.ite ?_ ?_
   | refine LeO.bind ?_ (fun _ => ?_)
set_option maxHeartbeats 8000000 in
set_option maxRecDepth 100000 in
theorem clinkerlaw05_NandAny.calls (k : Nat) (A0_0 : Option Addr) (c0_0 : Nat) (l0_0 : List (S44)) (a0_1 : Bool) (a0_2 : Bool) (a0_3 : Int) (a1 : Int) (a2 : Int) (a3_0 : Bool) (a3_1 : ByteArray) (a3_2 : ByteArray) (a4_0 : Int) (a4_1 : ByteArray) (a4_2 : ByteArray) (a4_3 : Int) (r : Bool) (hrt : Aside0 (r = true)) (w : World) (hr0_0 : Kd.C k44 w A0_0 l0_0.length l0_0) (hc0_0 : l0_0.length ≤ c0_0) (h : clinkerlaw05_NandAny.f k l0_0 a0_1 a0_2 a0_3 a1 a2 a3_0 a3_1 a3_2 a4_0 a4_1 a4_2 a4_3 = some r) :
  Calls Try.prog 5 #[.agg #[.slice A0_0 l0_0.length c0_0, .bool a0_1, .bool a0_2, .int .i64 a0_3], .int .i64 a1, .int .i64 a2, .agg #[.bool a3_0, .string a3_1, .string a3_2], .agg #[.int .i64 a4_0, .string a4_1, .string a4_2, .int .i64 a4_3]] w fun e w' => e = .returned (.bool r) ∧ Below w.heap.size w w' := by
 have hu27 := Try.underlying27
 have hu46 := Try.underlying46
 have hu41 := Try.underlying41
 have HR0_0 := Aside0.mk hr0_0
 have HC0_0 := Aside0.mk hc0_0
 clear hr0_0 hc0_0
 have HB := Aside0.mk (Below.refl w.heap.size w)
 have H : (if (l0_0.length : Int) > 40 then ((clinkerlaw05_awake.f).bind fun t554 => (some t554)) else (clinkerlaw05_NandAny.l0 k a1 a2 0 l0_0 a0_1 a0_2 a0_3 a3_0 a3_1 a3_2 a4_0 a4_1 a4_2 a4_3)) = some r := h
 clear h
 by_cases c6 : (l0_0.length : Int) > 40
 ·
  rw [if_pos c6] at H
  have c6b0 : decide (40 < (l0_0.length : Int)) = true := decide_eq_true c6
  have c6b1 : decide (40 < l0_0.length) = true := decide_eq_true (by omega)
  clear c6
  replace H := Option.bind_eq_some_iff.mp H
  obtain ⟨t554, A70, H⟩ := H
  replace H : (some t554) = some r := H
  have A7 := Aside0.mk A70
  clear A70
  obtain rfl := Option.some.inj H
  go_enter Try.func5, Try.ntmps5
  go_wp2_with (first | ((with_reducible refine gate_dst (N := 5) rfl ?_); refine box_event ?hg (N := 5) ?hd (cs := #[.slice A0_0 l0_0.length c0_0, .bool a0_1, .bool a0_2, .int .i64 a0_3]) (t := 27) ?hr ?_; (case hd => rfl); (case hg => rfl); (case hr => first | (go_simp; done) | (go_simp; rfl)); intro gb551 hg w8 hbox hb; have n0_ := Aside0.mk (below_step (by repeat (first | exact HB.out | apply below_alloc | apply pw_below_drewN | apply below_drew1)) hb); have n1_ := Aside0.mk (hbox); have n2_ := Aside0.mk ((by rw [hg]; exact (below_size (by repeat (first | exact HB.out | apply below_alloc | apply pw_below_drewN | apply below_drew1))) : w.heap.size ≤ gb551)); have n3_ := Aside0.mk ((by rw [hg]; exact (below_size (by repeat (first | exact HB.out | apply below_alloc | apply pw_below_drewN | apply below_drew1))) : w.heap.size ≤ gb551)); clear HB; have HB := n0_; have BK551 := n1_; have GW551 := n2_; have GE551 := n3_; clear n0_ n1_ n2_ n3_; clear hb hbox hg) | ((with_reducible refine gate_dst (N := 8) rfl ?_); refine box_event ?hg (N := 8) ?hd (cs := #[.bool a3_0, .string a3_1, .string a3_2]) (t := 46) ?hr ?_; (case hd => rfl); (case hg => rfl); (case hr => first | (go_simp; done) | (go_simp; rfl)); intro gb552 hg w9 hbox hb; have n0_ := Aside0.mk (blk_below (g := gb551) (o := .cells #[.slice A0_0 l0_0.length c0_0, .bool a0_1, .bool a0_2, .int .i64 a0_3] 27 (0, 0)) (by (with_reducible repeat (first | apply blk_drewN | apply blk_drew | apply blk_alloc)); exact BK551.out) hb); have n1_ := Aside0.mk (below_step (by repeat (first | exact HB.out | apply below_alloc | apply pw_below_drewN | apply below_drew1 | refine below_set ?_ GE551.out)) hb); have n2_ := Aside0.mk (hbox); have n3_ := Aside0.mk ((by rw [hg]; exact (below_size (by repeat (first | exact HB.out | apply below_alloc | apply pw_below_drewN | apply below_drew1 | refine below_set ?_ GE551.out))) : w.heap.size ≤ gb552)); have n4_ := Aside0.mk ((by rw [hg]; exact (below_size (by repeat (first | exact HB.out | apply below_alloc | apply pw_below_drewN | apply below_drew1 | refine below_set ?_ GE551.out))) : w.heap.size ≤ gb552)); have n5_ := Aside0.mk ((by rw [hg]; exact Nat.ne_of_lt (blk_lt (g := gb551) (o := .cells #[.slice A0_0 l0_0.length c0_0, .bool a0_1, .bool a0_2, .int .i64 a0_3] 27 (0, 0)) (by (with_reducible repeat (first | apply blk_drewN | apply blk_drew | apply blk_alloc)); exact BK551.out)) : gb551 ≠ gb552)); have n6_ := Aside0.mk ((by rw [hg]; exact Nat.ne_of_gt (blk_lt (g := gb551) (o := .cells #[.slice A0_0 l0_0.length c0_0, .bool a0_1, .bool a0_2, .int .i64 a0_3] 27 (0, 0)) (by (with_reducible repeat (first | apply blk_drewN | apply blk_drew | apply blk_alloc)); exact BK551.out)) : gb552 ≠ gb551)); clear BK551; clear HB; have BK551 := n0_; have HB := n1_; have BK552 := n2_; have GW552 := n3_; have GE552 := n4_; have NB551_552 := n5_; have NB552_551 := n6_; clear n0_ n1_ n2_ n3_ n4_ n5_ n6_; clear hb hbox hg) | ((with_reducible refine gate_dst (N := 9) rfl ?_); refine box_event ?hg (N := 9) ?hd (cs := #[.int .i64 a4_0, .string a4_1, .string a4_2, .int .i64 a4_3]) (t := 41) ?hr ?_; (case hd => rfl); (case hg => rfl); (case hr => first | (go_simp; done) | (go_simp; rfl)); intro gb553 hg w10 hbox hb; have n0_ := Aside0.mk (blk_below (g := gb551) (o := .cells #[.slice A0_0 l0_0.length c0_0, .bool a0_1, .bool a0_2, .int .i64 a0_3] 27 (0, 0)) (by (with_reducible repeat (first | apply blk_drewN | apply blk_drew | apply blk_alloc)); exact BK551.out) hb); have n1_ := Aside0.mk (blk_below (g := gb552) (o := .cells #[.bool a3_0, .string a3_1, .string a3_2] 46 (0, 0)) (by (with_reducible repeat (first | apply blk_drewN | apply blk_drew | apply blk_alloc)); exact BK552.out) hb); have n2_ := Aside0.mk (below_step (by repeat (first | (with_reducible first | exact HB.out | apply below_alloc | apply pw_below_drewN | apply below_drew1 | refine below_set ?_ GE551.out | refine below_set ?_ GE552.out) | exact HB.out)) hb); have n3_ := Aside0.mk (hbox); have n4_ := Aside0.mk ((by rw [hg]; exact (below_size (by repeat (first | (with_reducible first | exact HB.out | apply below_alloc | apply pw_below_drewN | apply below_drew1 | refine below_set ?_ GE551.out | refine below_set ?_ GE552.out) | exact HB.out))) : w.heap.size ≤ gb553)); have n5_ := Aside0.mk ((by rw [hg]; exact (below_size (by repeat (first | (with_reducible first | exact HB.out | apply below_alloc | apply pw_below_drewN | apply below_drew1 | refine below_set ?_ GE551.out | refine below_set ?_ GE552.out) | exact HB.out))) : w.heap.size ≤ gb553)); have n6_ := Aside0.mk ((by rw [hg]; exact Nat.ne_of_lt (blk_lt (g := gb551) (o := .cells #[.slice A0_0 l0_0.length c0_0, .bool a0_1, .bool a0_2, .int .i64 a0_3] 27 (0, 0)) (by (with_reducible repeat (first | apply blk_drewN | apply blk_drew | apply blk_alloc)); exact BK551.out)) : gb551 ≠ gb553)); have n7_ := Aside0.mk ((by rw [hg]; exact Nat.ne_of_gt (blk_lt (g := gb551) (o := .cells #[.slice A0_0 l0_0.length c0_0, .bool a0_1, .bool a0_2, .int .i64 a0_3] 27 (0, 0)) (by (with_reducible repeat (first | apply blk_drewN | apply blk_drew | apply blk_alloc)); exact BK551.out)) : gb553 ≠ gb551)); have n8_ := Aside0.mk ((by rw [hg]; exact Nat.ne_of_lt (blk_lt (g := gb552) (o := .cells #[.bool a3_0, .string a3_1, .string a3_2] 46 (0, 0)) (by (with_reducible repeat (first | apply blk_drewN | apply blk_drew | apply blk_alloc)); exact BK552.out)) : gb552 ≠ gb553)); have n9_ := Aside0.mk ((by rw [hg]; exact Nat.ne_of_gt (blk_lt (g := gb552) (o := .cells #[.bool a3_0, .string a3_1, .string a3_2] 46 (0, 0)) (by (with_reducible repeat (first | apply blk_drewN | apply blk_drew | apply blk_alloc)); exact BK552.out)) : gb553 ≠ gb552)); clear BK551; clear BK552; clear HB; have BK551 := n0_; have BK552 := n1_; have HB := n2_; have BK553 := n3_; have GW553 := n4_; have GE553 := n5_; have NB551_553 := n6_; have NB553_551 := n7_; have NB552_553 := n8_; have NB553_552 := n9_; clear n0_ n1_ n2_ n3_ n4_ n5_ n6_ n7_ n8_ n9_; clear hb hbox hg; have hnb11 := NB551_552.out; have hnc11 := NB552_551.out; have hnb12 := NB551_553.out; have hnc12 := NB553_551.out; have hcz13_0 : w10.cell? ⟨gb551, 0, none⟩ = some (.slice A0_0 l0_0.length c0_0) := (blk_cell BK551.out 0).trans rfl; have hcz13_1 : w10.cell? ⟨gb551, 1, none⟩ = some (.bool a0_1) := (blk_cell BK551.out 1).trans rfl; have hcz13_2 : w10.cell? ⟨gb551, 2, none⟩ = some (.bool a0_2) := (blk_cell BK551.out 2).trans rfl; have hcz13_3 : w10.cell? ⟨gb551, 3, none⟩ = some (.int .i64 a0_3) := (blk_cell BK551.out 3).trans rfl; have hfz13_0 := blk_frozen BK551.out 0; have hfz13_1 := blk_frozen BK551.out 1; have hfz13_2 := blk_frozen BK551.out 2; have hfz13_3 := blk_frozen BK551.out 3) | ((with_reducible refine gate_callee (f := 11) rfl ?_); refine goesL_ (some 16) rfl rfl Try.func11 (by kernel_rfl) rfl #[] rfl (by (try simp only [List.map_toArray, List.map_cons, List.map_nil]); first | done | rfl | (simp only [List.length_drop, List.length_take]; rfl)) ?_; (with_reducible refine (clinkerlaw05_awake.calls  t554 _ A7.out).mono ?_); rintro e w14 ⟨rfl, hb⟩; refine ⟨_, rfl, ?_⟩; have n0_ := Aside0.mk (blk_below (g := gb551) (o := .cells #[.slice A0_0 l0_0.length c0_0, .bool a0_1, .bool a0_2, .int .i64 a0_3] 27 (0, 0)) (by (with_reducible repeat (first | apply blk_drewN | apply blk_drew | apply blk_alloc)); exact BK551.out) hb); have n1_ := Aside0.mk (blk_below (g := gb552) (o := .cells #[.bool a3_0, .string a3_1, .string a3_2] 46 (0, 0)) (by (with_reducible repeat (first | apply blk_drewN | apply blk_drew | apply blk_alloc)); exact BK552.out) hb); have n2_ := Aside0.mk (blk_below (g := gb553) (o := .cells #[.int .i64 a4_0, .string a4_1, .string a4_2, .int .i64 a4_3] 41 (0, 0)) (by (with_reducible repeat (first | apply blk_drewN | apply blk_drew | apply blk_alloc)); exact BK553.out) hb); have n3_ := Aside0.mk (below_step (by repeat (first | (with_reducible first | exact HB.out | apply below_alloc | apply pw_below_drewN | apply below_drew1 | refine below_set ?_ GE551.out | refine below_set ?_ GE552.out | refine below_set ?_ GE553.out) | exact HB.out)) hb); clear BK551; clear BK552; clear BK553; clear HB; have BK551 := n0_; have BK552 := n1_; have BK553 := n2_; have HB := n3_; clear n0_ n1_ n2_ n3_; (try clear hb); (try clear hb2); (try clear hk); (try clear hi)))
  go_ret
  exact ⟨by first | rfl | (simp [errW_none, errW_some] <;> rfl) | (simp [*, errW_none, errW_some] <;> rfl), by repeat (first | (with_reducible first | exact HB.out | apply below_alloc | apply pw_below_drewN | apply below_drew1 | refine below_set ?_ GE551.out | refine below_set ?_ GE552.out | refine below_set ?_ GE553.out) | exact HB.out)⟩
 ·
  rw [if_neg c6] at H
  have c6b0 : decide (40 < (l0_0.length : Int)) = false := decide_eq_false c6
  have c6b1 : decide (40 < l0_0.length) = false := decide_eq_false (by omega)
  clear c6
  have H' := Aside0.mk H
  clear H
  go_enter Try.func5, Try.ntmps5
  go_wp2_with (first | ((with_reducible refine gate_dst (N := 5) rfl ?_); refine box_event ?hg (N := 5) ?hd (cs := #[.slice A0_0 l0_0.length c0_0, .bool a0_1, .bool a0_2, .int .i64 a0_3]) (t := 27) ?hr ?_; (case hd => rfl); (case hg => rfl); (case hr => first | (go_simp; done) | (go_simp; rfl)); intro gb551 hg w15 hbox hb; have n0_ := Aside0.mk (below_step (by repeat (first | exact HB.out | apply below_alloc | apply pw_below_drewN | apply below_drew1)) hb); have n1_ := Aside0.mk (hbox); have n2_ := Aside0.mk ((by rw [hg]; exact (below_size (by repeat (first | exact HB.out | apply below_alloc | apply pw_below_drewN | apply below_drew1))) : w.heap.size ≤ gb551)); have n3_ := Aside0.mk ((by rw [hg]; exact (below_size (by repeat (first | exact HB.out | apply below_alloc | apply pw_below_drewN | apply below_drew1))) : w.heap.size ≤ gb551)); clear HB; have HB := n0_; have BK551 := n1_; have GW551 := n2_; have GE551 := n3_; clear n0_ n1_ n2_ n3_; clear hb hbox hg) | ((with_reducible refine gate_dst (N := 8) rfl ?_); refine box_event ?hg (N := 8) ?hd (cs := #[.bool a3_0, .string a3_1, .string a3_2]) (t := 46) ?hr ?_; (case hd => rfl); (case hg => rfl); (case hr => first | (go_simp; done) | (go_simp; rfl)); intro gb552 hg w16 hbox hb; have n0_ := Aside0.mk (blk_below (g := gb551) (o := .cells #[.slice A0_0 l0_0.length c0_0, .bool a0_1, .bool a0_2, .int .i64 a0_3] 27 (0, 0)) (by (with_reducible repeat (first | apply blk_drewN | apply blk_drew | apply blk_alloc)); exact BK551.out) hb); have n1_ := Aside0.mk (below_step (by repeat (first | exact HB.out | apply below_alloc | apply pw_below_drewN | apply below_drew1 | refine below_set ?_ GE551.out)) hb); have n2_ := Aside0.mk (hbox); have n3_ := Aside0.mk ((by rw [hg]; exact (below_size (by repeat (first | exact HB.out | apply below_alloc | apply pw_below_drewN | apply below_drew1 | refine below_set ?_ GE551.out))) : w.heap.size ≤ gb552)); have n4_ := Aside0.mk ((by rw [hg]; exact (below_size (by repeat (first | exact HB.out | apply below_alloc | apply pw_below_drewN | apply below_drew1 | refine below_set ?_ GE551.out))) : w.heap.size ≤ gb552)); have n5_ := Aside0.mk ((by rw [hg]; exact Nat.ne_of_lt (blk_lt (g := gb551) (o := .cells #[.slice A0_0 l0_0.length c0_0, .bool a0_1, .bool a0_2, .int .i64 a0_3] 27 (0, 0)) (by (with_reducible repeat (first | apply blk_drewN | apply blk_drew | apply blk_alloc)); exact BK551.out)) : gb551 ≠ gb552)); have n6_ := Aside0.mk ((by rw [hg]; exact Nat.ne_of_gt (blk_lt (g := gb551) (o := .cells #[.slice A0_0 l0_0.length c0_0, .bool a0_1, .bool a0_2, .int .i64 a0_3] 27 (0, 0)) (by (with_reducible repeat (first | apply blk_drewN | apply blk_drew | apply blk_alloc)); exact BK551.out)) : gb552 ≠ gb551)); clear BK551; clear HB; have BK551 := n0_; have HB := n1_; have BK552 := n2_; have GW552 := n3_; have GE552 := n4_; have NB551_552 := n5_; have NB552_551 := n6_; clear n0_ n1_ n2_ n3_ n4_ n5_ n6_; clear hb hbox hg) | ((with_reducible refine gate_dst (N := 9) rfl ?_); refine box_event ?hg (N := 9) ?hd (cs := #[.int .i64 a4_0, .string a4_1, .string a4_2, .int .i64 a4_3]) (t := 41) ?hr ?_; (case hd => rfl); (case hg => rfl); (case hr => first | (go_simp; done) | (go_simp; rfl)); intro gb553 hg w17 hbox hb; have n0_ := Aside0.mk (blk_below (g := gb551) (o := .cells #[.slice A0_0 l0_0.length c0_0, .bool a0_1, .bool a0_2, .int .i64 a0_3] 27 (0, 0)) (by (with_reducible repeat (first | apply blk_drewN | apply blk_drew | apply blk_alloc)); exact BK551.out) hb); have n1_ := Aside0.mk (blk_below (g := gb552) (o := .cells #[.bool a3_0, .string a3_1, .string a3_2] 46 (0, 0)) (by (with_reducible repeat (first | apply blk_drewN | apply blk_drew | apply blk_alloc)); exact BK552.out) hb); have n2_ := Aside0.mk (below_step (by repeat (first | (with_reducible first | exact HB.out | apply below_alloc | apply pw_below_drewN | apply below_drew1 | refine below_set ?_ GE551.out | refine below_set ?_ GE552.out) | exact HB.out)) hb); have n3_ := Aside0.mk (hbox); have n4_ := Aside0.mk ((by rw [hg]; exact (below_size (by repeat (first | (with_reducible first | exact HB.out | apply below_alloc | apply pw_below_drewN | apply below_drew1 | refine below_set ?_ GE551.out | refine below_set ?_ GE552.out) | exact HB.out))) : w.heap.size ≤ gb553)); have n5_ := Aside0.mk ((by rw [hg]; exact (below_size (by repeat (first | (with_reducible first | exact HB.out | apply below_alloc | apply pw_below_drewN | apply below_drew1 | refine below_set ?_ GE551.out | refine below_set ?_ GE552.out) | exact HB.out))) : w.heap.size ≤ gb553)); have n6_ := Aside0.mk ((by rw [hg]; exact Nat.ne_of_lt (blk_lt (g := gb551) (o := .cells #[.slice A0_0 l0_0.length c0_0, .bool a0_1, .bool a0_2, .int .i64 a0_3] 27 (0, 0)) (by (with_reducible repeat (first | apply blk_drewN | apply blk_drew | apply blk_alloc)); exact BK551.out)) : gb551 ≠ gb553)); have n7_ := Aside0.mk ((by rw [hg]; exact Nat.ne_of_gt (blk_lt (g := gb551) (o := .cells #[.slice A0_0 l0_0.length c0_0, .bool a0_1, .bool a0_2, .int .i64 a0_3] 27 (0, 0)) (by (with_reducible repeat (first | apply blk_drewN | apply blk_drew | apply blk_alloc)); exact BK551.out)) : gb553 ≠ gb551)); have n8_ := Aside0.mk ((by rw [hg]; exact Nat.ne_of_lt (blk_lt (g := gb552) (o := .cells #[.bool a3_0, .string a3_1, .string a3_2] 46 (0, 0)) (by (with_reducible repeat (first | apply blk_drewN | apply blk_drew | apply blk_alloc)); exact BK552.out)) : gb552 ≠ gb553)); have n9_ := Aside0.mk ((by rw [hg]; exact Nat.ne_of_gt (blk_lt (g := gb552) (o := .cells #[.bool a3_0, .string a3_1, .string a3_2] 46 (0, 0)) (by (with_reducible repeat (first | apply blk_drewN | apply blk_drew | apply blk_alloc)); exact BK552.out)) : gb553 ≠ gb552)); clear BK551; clear BK552; clear HB; have BK551 := n0_; have BK552 := n1_; have HB := n2_; have BK553 := n3_; have GW553 := n4_; have GE553 := n5_; have NB551_553 := n6_; have NB553_551 := n7_; have NB552_553 := n8_; have NB553_552 := n9_; clear n0_ n1_ n2_ n3_ n4_ n5_ n6_ n7_ n8_ n9_; clear hb hbox hg; have hnb18 := NB551_552.out; have hnc18 := NB552_551.out; have hnb19 := NB551_553.out; have hnc19 := NB553_551.out; have hcz20_0 : w17.cell? ⟨gb551, 0, none⟩ = some (.slice A0_0 l0_0.length c0_0) := (blk_cell BK551.out 0).trans rfl; have hcz20_1 : w17.cell? ⟨gb551, 1, none⟩ = some (.bool a0_1) := (blk_cell BK551.out 1).trans rfl; have hcz20_2 : w17.cell? ⟨gb551, 2, none⟩ = some (.bool a0_2) := (blk_cell BK551.out 2).trans rfl; have hcz20_3 : w17.cell? ⟨gb551, 3, none⟩ = some (.int .i64 a0_3) := (blk_cell BK551.out 3).trans rfl; have hfz20_0 := blk_frozen BK551.out 0; have hfz20_1 := blk_frozen BK551.out 1; have hfz20_2 := blk_frozen BK551.out 2; have hfz20_3 := blk_frozen BK551.out 3))
  go_loopg [11] k (fun kq v11 w' => ∃ (x11_1 : Int), v11 = .int .i64 x11_1 ∧ Aside0 (clinkerlaw05_NandAny.l0 kq a1 a2 x11_1 l0_0 a0_1 a0_2 a0_3 a3_0 a3_1 a3_2 a4_0 a4_1 a4_2 a4_3 = some r) ∧ Aside0 (kq ≤ k) ∧ Aside0 (w'.heap[gb551]? = some (.cells #[(.slice A0_0 l0_0.length c0_0), .bool a0_1, .bool a0_2, .int .i64 a0_3] 27 (0, 0))) ∧ Aside0 (w'.heap[gb552]? = some (.cells #[.bool a3_0, .string a3_1, .string a3_2] 46 (0, 0))) ∧ Aside0 (w'.heap[gb553]? = some (.cells #[.int .i64 a4_0, .string a4_1, .string a4_2, .int .i64 a4_3] 41 (0, 0))) ∧ Aside0 (Below w.heap.size w w'))
  case atStart => exact ⟨(0), (by first | rfl | (simp; done) | (simp [*]; done)), H', ⟨Nat.le_refl _⟩, ⟨by (with_reducible repeat (first | apply blk_drewN | apply blk_drew | apply blk_alloc)); exact BK551.out⟩, ⟨by (with_reducible repeat (first | apply blk_drewN | apply blk_drew | apply blk_alloc)); exact BK552.out⟩, ⟨by (with_reducible repeat (first | apply blk_drewN | apply blk_drew | apply blk_alloc)); exact BK553.out⟩, ⟨by repeat (first | (with_reducible first | exact HB.out | apply below_alloc | apply pw_below_drewN | apply below_drew1 | refine below_set ?_ GE551.out | refine below_set ?_ GE552.out | refine below_set ?_ GE553.out) | exact HB.out)⟩⟩
  case round =>
   clear H'
   try clear c1
   try clear p2
   try clear c5
   try clear c6
   try clear c6b0
   try clear c6b1
   try clear c11
   try clear c12
   try clear c18
   try clear c19
   try clear hcz13_0
   try clear hcz13_1
   try clear hcz13_2
   try clear hcz13_3
   try clear hcz20_0
   try clear hcz20_1
   try clear hcz20_2
   try clear hcz20_3
   try clear hfz13_0
   try clear hfz13_1
   try clear hfz13_2
   try clear hfz13_3
   try clear hfz20_0
   try clear hfz20_1
   try clear hfz20_2
   try clear hfz20_3
   obtain ⟨x11_1, rfl, HA, HK1, BK551, BK552, BK553, HB⟩ := hrel
   cases gk with
   | zero => exact absurd HA.out (by simp [clinkerlaw05_NandAny.l0])
   | succ k1 =>
    have H := HA.out
    clear HA
    simp only [clinkerlaw05_NandAny.l0] at H
    by_cases c21 : x11_1 < (l0_0.length : Int)
    ·
     rw [if_pos c21] at H
     have c21b0 : decide (x11_1 < (l0_0.length : Int)) = true := decide_eq_true c21
     clear c21
     by_cases c22 : 0 ≤ x11_1
     ·
      rw [if_pos c22] at H
      have c22b0 : decide (0 ≤ x11_1) = true := decide_eq_true c22
      clear c22
      by_cases c23 : (((rd_T44 l0_0 x11_1).f0).length : Int) > 40
      ·
       rw [if_pos c23] at H
       have c23b0 : decide (40 < (((rd_T44 l0_0 x11_1).f0).length : Int)) = true := decide_eq_true c23
       have c23b1 : decide (40 < ((rd_T44 l0_0 x11_1).f0).length) = true := decide_eq_true (by omega)
       clear c23
       replace H := Option.bind_eq_some_iff.mp H
       obtain ⟨t556, A240, H⟩ := H
       replace H : (some t556) = some r := H
       have A24 := Aside0.mk A240
       clear A240
       obtain rfl := Option.some.inj H
       have hnb25 := NB551_552.out
       have hnc25 := NB552_551.out
       have hnb26 := NB551_553.out
       have hnc26 := NB553_551.out
       have hcz27_0 : wr.cell? ⟨gb551, 0, none⟩ = some (.slice A0_0 l0_0.length c0_0) := (blk_cell BK551.out 0).trans rfl
       have hcz27_1 : wr.cell? ⟨gb551, 1, none⟩ = some (.bool a0_1) := (blk_cell BK551.out 1).trans rfl
       have hcz27_2 : wr.cell? ⟨gb551, 2, none⟩ = some (.bool a0_2) := (blk_cell BK551.out 2).trans rfl
       have hcz27_3 : wr.cell? ⟨gb551, 3, none⟩ = some (.int .i64 a0_3) := (blk_cell BK551.out 3).trans rfl
       have hfz27_0 := blk_frozen BK551.out 0
       have hfz27_1 := blk_frozen BK551.out 1
       have hfz27_2 := blk_frozen BK551.out 2
       have hfz27_3 := blk_frozen BK551.out 3
       have p555 : 0 ≤ (x11_1 : Int) := of_decide_eq_true (by first | (with_reducible assumption) | assumption)
       have q555 : x11_1 < (l0_0.length : Int) := of_decide_eq_true (by first | (with_reducible assumption) | assumption)
       obtain ⟨ad555, A555_0, c555_0, e555, hx555_0, hx555_1, hx555_2, hx555_3, hl555_0, hi555_0⟩ := at_T44 HR0_0.out x11_1 p555 q555
       cases e555
       replace hx555_0 := (HB.out.cell (World.block_lt_of_cell? w _ hx555_0)).trans hx555_0
       replace hx555_1 := (HB.out.cell (World.block_lt_of_cell? w _ hx555_1)).trans hx555_1
       replace hx555_2 := (HB.out.cell (World.block_lt_of_cell? w _ hx555_2)).trans hx555_2
       replace hx555_3 := (HB.out.cell (World.block_lt_of_cell? w _ hx555_3)).trans hx555_3
       have HR555_0 := Aside0.mk hi555_0
       have HC555_0 := Aside0.mk hl555_0
       clear hi555_0 hl555_0
       replace p555 := eq_true p555
       replace q555 := eq_true q555
       go_wp2_with (first | ((with_reducible refine gate_callee (f := 11) rfl ?_); refine goesL_ (some 32) rfl rfl Try.func11 (by kernel_rfl) rfl #[] rfl (by (try simp only [List.map_toArray, List.map_cons, List.map_nil]); first | done | rfl | (simp only [List.length_drop, List.length_take]; rfl)) ?_; (with_reducible refine (clinkerlaw05_awake.calls  t556 _ A24.out).mono ?_); rintro e w28 ⟨rfl, hb⟩; refine ⟨_, rfl, ?_⟩; have n0_ := Aside0.mk (blk_below (g := gb551) (o := .cells #[.slice (some ad555) l0_0.length c0_0, .bool a0_1, .bool a0_2, .int .i64 a0_3] 27 (0, 0)) (by (with_reducible repeat (first | apply blk_drewN | apply blk_drew | apply blk_alloc)); exact BK551.out) hb); have n1_ := Aside0.mk (blk_below (g := gb552) (o := .cells #[.bool a3_0, .string a3_1, .string a3_2] 46 (0, 0)) (by (with_reducible repeat (first | apply blk_drewN | apply blk_drew | apply blk_alloc)); exact BK552.out) hb); have n2_ := Aside0.mk (blk_below (g := gb553) (o := .cells #[.int .i64 a4_0, .string a4_1, .string a4_2, .int .i64 a4_3] 41 (0, 0)) (by (with_reducible repeat (first | apply blk_drewN | apply blk_drew | apply blk_alloc)); exact BK553.out) hb); have n3_ := Aside0.mk (below_step (by repeat (first | (with_reducible first | exact HB.out | apply below_alloc | apply pw_below_drewN | apply below_drew1 | refine below_set ?_ GE551.out | refine below_set ?_ GE552.out | refine below_set ?_ GE553.out) | exact HB.out)) hb); clear BK551; clear BK552; clear BK553; clear HB; have BK551 := n0_; have BK552 := n1_; have BK553 := n2_; have HB := n3_; clear n0_ n1_ n2_ n3_; (try clear hb); (try clear hb2); (try clear hk); (try clear hi)))
       go_ret
       exact ⟨by first | rfl | (simp [errW_none, errW_some] <;> rfl) | (simp [*, errW_none, errW_some] <;> rfl), by repeat (first | (with_reducible first | exact HB.out | apply below_alloc | apply pw_below_drewN | apply below_drew1 | refine below_set ?_ GE551.out | refine below_set ?_ GE552.out | refine below_set ?_ GE553.out) | exact HB.out)⟩
      ·
       rw [if_neg c23] at H
       have c23b0 : decide (40 < (((rd_T44 l0_0 x11_1).f0).length : Int)) = false := decide_eq_false c23
       have c23b1 : decide (40 < ((rd_T44 l0_0 x11_1).f0).length) = false := decide_eq_false (by omega)
       clear c23
       have H' := Aside0.mk H
       clear H
       have hnb29 := NB551_552.out
       have hnc29 := NB552_551.out
       have hnb30 := NB551_553.out
       have hnc30 := NB553_551.out
       have hcz31_0 : wr.cell? ⟨gb551, 0, none⟩ = some (.slice A0_0 l0_0.length c0_0) := (blk_cell BK551.out 0).trans rfl
       have hcz31_1 : wr.cell? ⟨gb551, 1, none⟩ = some (.bool a0_1) := (blk_cell BK551.out 1).trans rfl
       have hcz31_2 : wr.cell? ⟨gb551, 2, none⟩ = some (.bool a0_2) := (blk_cell BK551.out 2).trans rfl
       have hcz31_3 : wr.cell? ⟨gb551, 3, none⟩ = some (.int .i64 a0_3) := (blk_cell BK551.out 3).trans rfl
       have hfz31_0 := blk_frozen BK551.out 0
       have hfz31_1 := blk_frozen BK551.out 1
       have hfz31_2 := blk_frozen BK551.out 2
       have hfz31_3 := blk_frozen BK551.out 3
       have p555 : 0 ≤ (x11_1 : Int) := of_decide_eq_true (by first | (with_reducible assumption) | assumption)
       have q555 : x11_1 < (l0_0.length : Int) := of_decide_eq_true (by first | (with_reducible assumption) | assumption)
       obtain ⟨ad555, A555_0, c555_0, e555, hx555_0, hx555_1, hx555_2, hx555_3, hl555_0, hi555_0⟩ := at_T44 HR0_0.out x11_1 p555 q555
       cases e555
       replace hx555_0 := (HB.out.cell (World.block_lt_of_cell? w _ hx555_0)).trans hx555_0
       replace hx555_1 := (HB.out.cell (World.block_lt_of_cell? w _ hx555_1)).trans hx555_1
       replace hx555_2 := (HB.out.cell (World.block_lt_of_cell? w _ hx555_2)).trans hx555_2
       replace hx555_3 := (HB.out.cell (World.block_lt_of_cell? w _ hx555_3)).trans hx555_3
       have HR555_0 := Aside0.mk hi555_0
       have HC555_0 := Aside0.mk hl555_0
       clear hi555_0 hl555_0
       replace p555 := eq_true p555
       replace q555 := eq_true q555
       go_wp2
       go_roundg k1
       case measure => have := HK1.out; omega
       case rel => exact ⟨(wrap64 (x11_1 + 1)), (by first | rfl | (simp; done) | (simp [*]; done)), H', ⟨by have := HK1.out; omega⟩, ⟨by (with_reducible repeat (first | apply blk_drewN | apply blk_drew | apply blk_alloc)); exact BK551.out⟩, ⟨by (with_reducible repeat (first | apply blk_drewN | apply blk_drew | apply blk_alloc)); exact BK552.out⟩, ⟨by (with_reducible repeat (first | apply blk_drewN | apply blk_drew | apply blk_alloc)); exact BK553.out⟩, ⟨by repeat (first | (with_reducible first | exact HB.out | apply below_alloc | apply pw_below_drewN | apply below_drew1 | refine below_set ?_ GE551.out | refine below_set ?_ GE552.out | refine below_set ?_ GE553.out) | exact HB.out)⟩⟩
     ·
      rw [if_neg c22] at H
      exact absurd H (by simp)
    ·
     rw [if_neg c21] at H
     have c21b0 : decide (x11_1 < (l0_0.length : Int)) = false := decide_eq_false c21
     clear c21
     replace H := Option.bind_eq_some_iff.mp H
     obtain ⟨t557, A320, H⟩ := H
     replace H : (if t557 = true then ((clinkerlaw05_same.f l0_0 a0_1 a0_2 a0_3 a1 a2 a3_0 a3_1 a3_2 a4_0 a4_1 a4_2 a4_3).bind fun t558 => (some t558)) else (some false)) = some r := H
     have A32 := Aside0.mk A320
     clear A320
     by_cases c33 : t557 = true
     ·
      subst c33
      have H1 : ((clinkerlaw05_same.f l0_0 a0_1 a0_2 a0_3 a1 a2 a3_0 a3_1 a3_2 a4_0 a4_1 a4_2 a4_3).bind fun t558 => (some t558)) = some r := by rw [if_pos rfl] at H; exact H
      clear H
      have H := H1
      clear H1
      replace H := Option.bind_eq_some_iff.mp H
      obtain ⟨t558, A340, H⟩ := H
      replace H : (some t558) = some r := H
      have A34 := Aside0.mk A340
      clear A340
      obtain rfl := Option.some.inj H
      have hnb35 := NB551_552.out
      have hnc35 := NB552_551.out
      have hnb36 := NB551_553.out
      have hnc36 := NB553_551.out
      have hcz37_0 : wr.cell? ⟨gb551, 0, none⟩ = some (.slice A0_0 l0_0.length c0_0) := (blk_cell BK551.out 0).trans rfl
      have hcz37_1 : wr.cell? ⟨gb551, 1, none⟩ = some (.bool a0_1) := (blk_cell BK551.out 1).trans rfl
      have hcz37_2 : wr.cell? ⟨gb551, 2, none⟩ = some (.bool a0_2) := (blk_cell BK551.out 2).trans rfl
      have hcz37_3 : wr.cell? ⟨gb551, 3, none⟩ = some (.int .i64 a0_3) := (blk_cell BK551.out 3).trans rfl
      have hfz37_0 := blk_frozen BK551.out 0
      have hfz37_1 := blk_frozen BK551.out 1
      have hfz37_2 := blk_frozen BK551.out 2
      have hfz37_3 := blk_frozen BK551.out 3
      go_wp2_with (first | ((with_reducible refine gate_callee (f := 11) rfl ?_); refine goesL_ (some 33) rfl rfl Try.func11 (by kernel_rfl) rfl #[] rfl (by (try simp only [List.map_toArray, List.map_cons, List.map_nil]); first | done | rfl | (simp only [List.length_drop, List.length_take]; rfl)) ?_; (with_reducible refine (clinkerlaw05_awake.calls  true _ A32.out).mono ?_); rintro e w38 ⟨rfl, hb⟩; refine ⟨_, rfl, ?_⟩; have n0_ := Aside0.mk (blk_below (g := gb551) (o := .cells #[.slice A0_0 l0_0.length c0_0, .bool a0_1, .bool a0_2, .int .i64 a0_3] 27 (0, 0)) (by (with_reducible repeat (first | apply blk_drewN | apply blk_drew | apply blk_alloc)); exact BK551.out) hb); have n1_ := Aside0.mk (blk_below (g := gb552) (o := .cells #[.bool a3_0, .string a3_1, .string a3_2] 46 (0, 0)) (by (with_reducible repeat (first | apply blk_drewN | apply blk_drew | apply blk_alloc)); exact BK552.out) hb); have n2_ := Aside0.mk (blk_below (g := gb553) (o := .cells #[.int .i64 a4_0, .string a4_1, .string a4_2, .int .i64 a4_3] 41 (0, 0)) (by (with_reducible repeat (first | apply blk_drewN | apply blk_drew | apply blk_alloc)); exact BK553.out) hb); have n3_ := Aside0.mk (below_step (by repeat (first | (with_reducible first | exact HB.out | apply below_alloc | apply pw_below_drewN | apply below_drew1 | refine below_set ?_ GE551.out | refine below_set ?_ GE552.out | refine below_set ?_ GE553.out) | exact HB.out)) hb); clear BK551; clear BK552; clear BK553; clear HB; have BK551 := n0_; have BK552 := n1_; have BK553 := n2_; have HB := n3_; clear n0_ n1_ n2_ n3_; (try clear hb); (try clear hb2); (try clear hk); (try clear hi); have hcz39_0 : w38.cell? ⟨gb551, 0, none⟩ = some (.slice A0_0 l0_0.length c0_0) := (blk_cell BK551.out 0).trans rfl; have hcz39_1 : w38.cell? ⟨gb551, 1, none⟩ = some (.bool a0_1) := (blk_cell BK551.out 1).trans rfl; have hcz39_2 : w38.cell? ⟨gb551, 2, none⟩ = some (.bool a0_2) := (blk_cell BK551.out 2).trans rfl; have hcz39_3 : w38.cell? ⟨gb551, 3, none⟩ = some (.int .i64 a0_3) := (blk_cell BK551.out 3).trans rfl; have hfz39_0 := blk_frozen BK551.out 0; have hfz39_1 := blk_frozen BK551.out 1; have hfz39_2 := blk_frozen BK551.out 2; have hfz39_3 := blk_frozen BK551.out 3; have hnb40 := NB552_553.out; have hnc40 := NB553_552.out; have hcz41_0 : w38.cell? ⟨gb552, 0, none⟩ = some (.bool a3_0) := (blk_cell BK552.out 0).trans rfl; have hcz41_1 : w38.cell? ⟨gb552, 1, none⟩ = some (.string a3_1) := (blk_cell BK552.out 1).trans rfl; have hcz41_2 : w38.cell? ⟨gb552, 2, none⟩ = some (.string a3_2) := (blk_cell BK552.out 2).trans rfl; have hfz41_0 := blk_frozen BK552.out 0; have hfz41_1 := blk_frozen BK552.out 1; have hfz41_2 := blk_frozen BK552.out 2; have hcz42_0 : w38.cell? ⟨gb553, 0, none⟩ = some (.int .i64 a4_0) := (blk_cell BK553.out 0).trans rfl; have hcz42_1 : w38.cell? ⟨gb553, 1, none⟩ = some (.string a4_1) := (blk_cell BK553.out 1).trans rfl; have hcz42_2 : w38.cell? ⟨gb553, 2, none⟩ = some (.string a4_2) := (blk_cell BK553.out 2).trans rfl; have hcz42_3 : w38.cell? ⟨gb553, 3, none⟩ = some (.int .i64 a4_3) := (blk_cell BK553.out 3).trans rfl; have hfz42_0 := blk_frozen BK553.out 0; have hfz42_1 := blk_frozen BK553.out 1; have hfz42_2 := blk_frozen BK553.out 2; have hfz42_3 := blk_frozen BK553.out 3) | (go_at_call 20; (with_reducible refine (clinkerlaw05_same.calls _ _ l0_0 a0_1 a0_2 a0_3 a1 a2 a3_0 a3_1 a3_2 a4_0 a4_1 a4_2 a4_3 t558 hrt _ ?side1 ?side2 A34.out).mono ?_); (case side1 => repeat (first | exact (Kd.C_below HR0_0.out HB.out) | (with_reducible refine Kd.C_alloc ?_ _) | (with_reducible refine Kd.C_drewN ?_ _) | (with_reducible refine Kd.C_drew ?_))); (case side2 => exact HC0_0.out); rintro e w43 ⟨rfl, hb⟩; have n0_ := Aside0.mk (blk_below (g := gb551) (o := .cells #[.slice A0_0 l0_0.length c0_0, .bool a0_1, .bool a0_2, .int .i64 a0_3] 27 (0, 0)) (by (with_reducible repeat (first | apply blk_drewN | apply blk_drew | apply blk_alloc)); exact BK551.out) hb); have n1_ := Aside0.mk (blk_below (g := gb552) (o := .cells #[.bool a3_0, .string a3_1, .string a3_2] 46 (0, 0)) (by (with_reducible repeat (first | apply blk_drewN | apply blk_drew | apply blk_alloc)); exact BK552.out) hb); have n2_ := Aside0.mk (blk_below (g := gb553) (o := .cells #[.int .i64 a4_0, .string a4_1, .string a4_2, .int .i64 a4_3] 41 (0, 0)) (by (with_reducible repeat (first | apply blk_drewN | apply blk_drew | apply blk_alloc)); exact BK553.out) hb); have n3_ := Aside0.mk (below_step (by repeat (first | (with_reducible first | exact HB.out | apply below_alloc | apply pw_below_drewN | apply below_drew1 | refine below_set ?_ GE551.out | refine below_set ?_ GE552.out | refine below_set ?_ GE553.out) | exact HB.out)) hb); clear BK551; clear BK552; clear BK553; clear HB; have BK551 := n0_; have BK552 := n1_; have BK553 := n2_; have HB := n3_; clear n0_ n1_ n2_ n3_; (try clear hb); (try clear hb2); (try clear hk); (try clear hi)))
      go_ret
      exact ⟨by first | rfl | (simp [errW_none, errW_some] <;> rfl) | (simp [*, errW_none, errW_some] <;> rfl), by repeat (first | (with_reducible first | exact HB.out | apply below_alloc | apply pw_below_drewN | apply below_drew1 | refine below_set ?_ GE551.out | refine below_set ?_ GE552.out | refine below_set ?_ GE553.out) | exact HB.out)⟩
     ·
      replace c33 := Bool.eq_false_iff.mpr c33
      subst c33
      have H1 : (some false) = some r := by rw [if_neg (show ¬ (false = true) by decide)] at H; exact H
      clear H
      have H := H1
      clear H1
      exact absurd (H.trans (congrArg some hrt.out)) (by simp)

end Go.Proofs.Ythjjngfbpoapnaa.PAll
