/- Written by a program of this session (wip/xp) out of the translation: functions in plain Lean, and proofs that the calls come to these. -/
import Derived.Test.YtfolonajajideaaPAllx0
import Derived.Test.YtfolonajajideaaShort
namespace Go.Proofs.Ytfolonajajideaa.PAll
open Go.RowKit Go.Proofs.YtfolonajajideaaW.PrintWords Go.Proofs.YtfolonajajideaaW.PrintLast Go.Proofs.YtfolonajajideaaW.PrintMore
attribute [local go_sem] max2_int min2_int max_two min_two max_three min_three max_four min_four   -- for this text's walks alone
set_option linter.unusedVariables false
set_option linter.unusedSimpArgs false

/-! ### clinkerref06_Place: function 32 -/
def clinkerref06_Place.f (a0 : Int) (a1 : Int) : Option (Int) := if a0 < 0 then (some (-1)) else (if a0 ≥ 32 then (some (-1)) else (if a1 < 0 then (some (-1)) else (if a1 ≥ 16 then (some (-1)) else (some (wrap64 ((wrap64 (a0 * 16)) + a1))))))
set_option maxHeartbeats 8000000 in
set_option maxRecDepth 100000 in
theorem clinkerref06_Place.calls (a0 : Int) (a1 : Int) (r : Int) (w : World) (h : clinkerref06_Place.f a0 a1 = some r) :
  Calls Try.prog 32 #[.int .i64 a0, .int .i64 a1] w fun e w' => e = .returned (.int .i64 r) ∧ Drawn0 w w' := by
 have H : (if a0 < 0 then (some (-1)) else (if a0 ≥ 32 then (some (-1)) else (if a1 < 0 then (some (-1)) else (if a1 ≥ 16 then (some (-1)) else (some (wrap64 ((wrap64 (a0 * 16)) + a1))))))) = some r := h
 clear h
 by_cases c3 : a0 < 0
 ·
  rw [if_pos c3] at H
  have c3b0 : decide (a0 < 0) = true := decide_eq_true c3
  clear c3
  obtain rfl := Option.some.inj H
  go_enter Try.func32, Try.ntmps32
  go_wp2
  go_ret
  exact ⟨by first | rfl | (simp; done) | (simp [*]; done), by repeat (first | exact Drawn0.refl _ | apply Drawn0.step)⟩
 ·
  rw [if_neg c3] at H
  have c3b0 : decide (a0 < 0) = false := decide_eq_false c3
  clear c3
  by_cases c4 : a0 ≥ 32
  ·
   rw [if_pos c4] at H
   have c4b0 : decide (32 ≤ a0) = true := decide_eq_true c4
   clear c4
   obtain rfl := Option.some.inj H
   go_enter Try.func32, Try.ntmps32
   go_wp2
   go_ret
   exact ⟨by first | rfl | (simp; done) | (simp [*]; done), by repeat (first | exact Drawn0.refl _ | apply Drawn0.step)⟩
  ·
   rw [if_neg c4] at H
   have c4b0 : decide (32 ≤ a0) = false := decide_eq_false c4
   clear c4
   by_cases c5 : a1 < 0
   ·
    rw [if_pos c5] at H
    have c5b0 : decide (a1 < 0) = true := decide_eq_true c5
    clear c5
    obtain rfl := Option.some.inj H
    go_enter Try.func32, Try.ntmps32
    go_wp2
    go_ret
    exact ⟨by first | rfl | (simp; done) | (simp [*]; done), by repeat (first | exact Drawn0.refl _ | apply Drawn0.step)⟩
   ·
    rw [if_neg c5] at H
    have c5b0 : decide (a1 < 0) = false := decide_eq_false c5
    clear c5
    by_cases c6 : a1 ≥ 16
    ·
     rw [if_pos c6] at H
     have c6b0 : decide (16 ≤ a1) = true := decide_eq_true c6
     clear c6
     obtain rfl := Option.some.inj H
     go_enter Try.func32, Try.ntmps32
     go_wp2
     go_ret
     exact ⟨by first | rfl | (simp; done) | (simp [*]; done), by repeat (first | exact Drawn0.refl _ | apply Drawn0.step)⟩
    ·
     rw [if_neg c6] at H
     have c6b0 : decide (16 ≤ a1) = false := decide_eq_false c6
     clear c6
     obtain rfl := Option.some.inj H
     go_enter Try.func32, Try.ntmps32
     go_wp2
     go_ret
     exact ⟨by first | rfl | (simp; done) | (simp [*]; done), by repeat (first | exact Drawn0.refl _ | apply Drawn0.step)⟩

/-! ### clinkerref06_ahead: function 44 -/
def clinkerref06_ahead.f (a0_0 : Int) (a0_1 : Int) (a0_2 : Int) (l0_3 : List Int) (l0_4 : List Int) (a1_0 : Int) (a1_1 : Int) (a1_2 : Int) (l1_3 : List Int) (l1_4 : List Int) : Option (Bool) := if a0_2 < a1_2 then (some true) else (if a0_2 = a1_2 then (some (decide (a0_0 < a1_0))) else (some false))
abbrev q0k16 : Array Bool := #[false, false, false, false, false, false, false, false, false, false]
abbrev q1k16 : Array Bool := #[true, true, true, true, true, true, true, true, true, false]
set_option maxHeartbeats 8000000 in
set_option maxRecDepth 100000 in
theorem clinkerref06_ahead.calls (a0_0 : Int) (a0_1 : Int) (a0_2 : Int) (A0_3 : Option Addr) (c0_3 : Nat) (l0_3 : List Int) (A0_4 : Option Addr) (c0_4 : Nat) (l0_4 : List Int) (a1_0 : Int) (a1_1 : Int) (a1_2 : Int) (A1_3 : Option Addr) (c1_3 : Nat) (l1_3 : List Int) (A1_4 : Option Addr) (c1_4 : Nat) (l1_4 : List Int) (r : Bool) (w : World) (hr0_3 : Kd.C (Kd.int .i64) w A0_3 l0_3.length l0_3) (hc0_3 : l0_3.length ≤ c0_3) (hr0_4 : Kd.C (Kd.int .i64) w A0_4 l0_4.length l0_4) (hc0_4 : l0_4.length ≤ c0_4) (hr1_3 : Kd.C (Kd.int .i64) w A1_3 l1_3.length l1_3) (hc1_3 : l1_3.length ≤ c1_3) (hr1_4 : Kd.C (Kd.int .i64) w A1_4 l1_4.length l1_4) (hc1_4 : l1_4.length ≤ c1_4) (h : clinkerref06_ahead.f a0_0 a0_1 a0_2 l0_3 l0_4 a1_0 a1_1 a1_2 l1_3 l1_4 = some r) :
  Calls Try.prog 44 #[.agg #[.int .i64 a0_0, .int .i64 a0_1, .int .i64 a0_2, .slice A0_3 l0_3.length c0_3, .slice A0_4 l0_4.length c0_4], .agg #[.int .i64 a1_0, .int .i64 a1_1, .int .i64 a1_2, .slice A1_3 l1_3.length c1_3, .slice A1_4 l1_4.length c1_4]] w fun e w' => e = .returned (.bool r) ∧ Below w.heap.size w w' := by
 have hu44 := Try.underlying44
 have HR0_3 := Aside0.mk hr0_3
 have HC0_3 := Aside0.mk hc0_3
 clear hr0_3 hc0_3
 have HR0_4 := Aside0.mk hr0_4
 have HC0_4 := Aside0.mk hc0_4
 clear hr0_4 hc0_4
 have HR1_3 := Aside0.mk hr1_3
 have HC1_3 := Aside0.mk hc1_3
 clear hr1_3 hc1_3
 have HR1_4 := Aside0.mk hr1_4
 have HC1_4 := Aside0.mk hc1_4
 clear hr1_4 hc1_4
 have HB := Aside0.mk (Below.refl w.heap.size w)
 have H : (if a0_2 < a1_2 then (some true) else (if a0_2 = a1_2 then (some (decide (a0_0 < a1_0))) else (some false))) = some r := h
 clear h
 by_cases c3 : a0_2 < a1_2
 case pos =>
  rw [if_pos c3] at H
  have c3b0 : decide (a0_2 < a1_2) = true := decide_eq_true c3
  clear c3
  obtain rfl := Option.some.inj H
  go_enter Try.func44, Try.ntmps44
  go_wp2_with (first | ((with_reducible refine gate_dst (N := 2) rfl ?_); refine box_event ?hg (N := 2) ?hd (cs := #[.int .i64 a0_0, .int .i64 a0_1, .int .i64 a0_2, .slice A0_3 l0_3.length c0_3, .slice A0_4 l0_4.length c0_4]) (t := 44) ?hr ?_; (case hd => rfl); (case hg => rfl); (case hr => first | (go_simp; done) | (go_simp; rfl)); intro gb282 hg w4 hbox hb; have BK282 := Aside0.mk (hbox); have GW282 := Aside0.mk ((bz hg : w.heap.size ≤ gb282)); replace HB := Aside0.mk (bst hb); have GE282 := GW282; clear hb hbox hg) | ((with_reducible refine gate_dst (N := 3) rfl ?_); refine box_event ?hg (N := 3) ?hd (cs := #[.int .i64 a1_0, .int .i64 a1_1, .int .i64 a1_2, .slice A1_3 l1_3.length c1_3, .slice A1_4 l1_4.length c1_4]) (t := 44) ?hr ?_; (case hd => rfl); (case hg => rfl); (case hr => first | (go_simp; done) | (go_simp; rfl)); intro gb283 hg w5 hbox hb; have BK283 := Aside0.mk (hbox); have GW283 := Aside0.mk ((bz hg : w.heap.size ≤ gb283)); replace HB := Aside0.mk (bst hb); have GE283 := GW283; have NB282_283 := Aside0.mk ((bl BK282.out hg : gb282 ≠ gb283)); replace BK282 := Aside0.mk (bb BK282.out hb); have NB283_282 := Aside0.mk NB282_283.out.symm; clear hb hbox hg; have hnb6 := NB282_283.out; have hnc6 := NB283_282.out; obtain ⟨hcz7_0, hcz7_1, hcz7_2, hcz7_3, hcz7_4, hfz7_0, hfz7_1, hfz7_2, hfz7_3, hfz7_4⟩ := kc5 BK282.out; obtain ⟨hcz8_0, hcz8_1, hcz8_2, hcz8_3, hcz8_4, hfz8_0, hfz8_1, hfz8_2, hfz8_3, hfz8_4⟩ := kc5 BK283.out))
  go_ret
  exact ⟨by first | rfl | (simp [errW_none, errW_some] <;> rfl) | (simp [*, errW_none, errW_some] <;> rfl), by repeat (first | (with_reducible first | exact HB.out | apply lA | apply lN | apply lD | refine lS ?_ GE282.out | refine lS ?_ GE283.out) | exact HB.out)⟩
 rw [if_neg c3] at H
 have c3b0 : decide (a0_2 < a1_2) = false := decide_eq_false c3
 clear c3
 by_cases c9 : a0_2 = a1_2
 case neg =>
  rw [if_neg c9] at H
  have c9b0 : (a0_2 == a1_2) = false := beq_eq_false_iff_ne.mpr c9
  have c9b1 : (a0_2 != a1_2) = true := bne_iff_ne.mpr c9
  obtain rfl := Option.some.inj H
  go_enter Try.func44, Try.ntmps44
  go_wp2_with (first | ((with_reducible refine gate_dst (N := 2) rfl ?_); refine box_event ?hg (N := 2) ?hd (cs := #[.int .i64 a0_0, .int .i64 a0_1, .int .i64 a0_2, .slice A0_3 l0_3.length c0_3, .slice A0_4 l0_4.length c0_4]) (t := 44) ?hr ?_; (case hd => rfl); (case hg => rfl); (case hr => first | (go_simp; done) | (go_simp; rfl)); intro gb282 hg w15 hbox hb; have BK282 := Aside0.mk (hbox); have GW282 := Aside0.mk ((bz hg : w.heap.size ≤ gb282)); replace HB := Aside0.mk (bst hb); have GE282 := GW282; clear hb hbox hg) | ((with_reducible refine gate_dst (N := 3) rfl ?_); refine box_event ?hg (N := 3) ?hd (cs := #[.int .i64 a1_0, .int .i64 a1_1, .int .i64 a1_2, .slice A1_3 l1_3.length c1_3, .slice A1_4 l1_4.length c1_4]) (t := 44) ?hr ?_; (case hd => rfl); (case hg => rfl); (case hr => first | (go_simp; done) | (go_simp; rfl)); intro gb283 hg w16 hbox hb; have BK283 := Aside0.mk (hbox); have GW283 := Aside0.mk ((bz hg : w.heap.size ≤ gb283)); replace HB := Aside0.mk (bst hb); have GE283 := GW283; have NB282_283 := Aside0.mk ((bl BK282.out hg : gb282 ≠ gb283)); replace BK282 := Aside0.mk (bb BK282.out hb); have NB283_282 := Aside0.mk NB282_283.out.symm; clear hb hbox hg; have hnb17 := NB282_283.out; have hnc17 := NB283_282.out; obtain ⟨hcz18_0, hcz18_1, hcz18_2, hcz18_3, hcz18_4, hfz18_0, hfz18_1, hfz18_2, hfz18_3, hfz18_4⟩ := kc5 BK282.out; obtain ⟨hcz19_0, hcz19_1, hcz19_2, hcz19_3, hcz19_4, hfz19_0, hfz19_1, hfz19_2, hfz19_3, hfz19_4⟩ := kc5 BK283.out))
  go_ret
  exact ⟨by first | rfl | (simp [errW_none, errW_some] <;> rfl) | (simp [*, errW_none, errW_some] <;> rfl), by repeat (first | (with_reducible first | exact HB.out | apply lA | apply lN | apply lD | refine lS ?_ GE282.out | refine lS ?_ GE283.out) | exact HB.out)⟩
 rw [if_pos c9] at H
 have c9b0 : (a0_2 == a1_2) = true := beq_iff_eq.mpr c9
 have c9b1 : (a0_2 != a1_2) = false := bne_eq_false_iff_eq.mpr c9
 clear c9
 obtain rfl := Option.some.inj H
 go_enter Try.func44, Try.ntmps44
 go_wp2_with (first | ((with_reducible refine gate_dst (N := 2) rfl ?_); refine box_event ?hg (N := 2) ?hd (cs := #[.int .i64 a0_0, .int .i64 a0_1, .int .i64 a0_2, .slice A0_3 l0_3.length c0_3, .slice A0_4 l0_4.length c0_4]) (t := 44) ?hr ?_; (case hd => rfl); (case hg => rfl); (case hr => first | (go_simp; done) | (go_simp; rfl)); intro gb282 hg w10 hbox hb; have BK282 := Aside0.mk (hbox); have GW282 := Aside0.mk ((bz hg : w.heap.size ≤ gb282)); replace HB := Aside0.mk (bst hb); have GE282 := GW282; clear hb hbox hg) | ((with_reducible refine gate_dst (N := 3) rfl ?_); refine box_event ?hg (N := 3) ?hd (cs := #[.int .i64 a1_0, .int .i64 a1_1, .int .i64 a1_2, .slice A1_3 l1_3.length c1_3, .slice A1_4 l1_4.length c1_4]) (t := 44) ?hr ?_; (case hd => rfl); (case hg => rfl); (case hr => first | (go_simp; done) | (go_simp; rfl)); intro gb283 hg w11 hbox hb; have BK283 := Aside0.mk (hbox); have GW283 := Aside0.mk ((bz hg : w.heap.size ≤ gb283)); replace HB := Aside0.mk (bst hb); have GE283 := GW283; have NB282_283 := Aside0.mk ((bl BK282.out hg : gb282 ≠ gb283)); replace BK282 := Aside0.mk (bb BK282.out hb); have NB283_282 := Aside0.mk NB282_283.out.symm; clear hb hbox hg; have hnb12 := NB282_283.out; have hnc12 := NB283_282.out; obtain ⟨hcz13_0, hcz13_1, hcz13_2, hcz13_3, hcz13_4, hfz13_0, hfz13_1, hfz13_2, hfz13_3, hfz13_4⟩ := kc5 BK282.out; obtain ⟨hcz14_0, hcz14_1, hcz14_2, hcz14_3, hcz14_4, hfz14_0, hfz14_1, hfz14_2, hfz14_3, hfz14_4⟩ := kc5 BK283.out))
 go_ret
 exact ⟨by first | rfl | (simp [errW_none, errW_some] <;> rfl) | (simp [*, errW_none, errW_some] <;> rfl), by repeat (first | (with_reducible first | exact HB.out | apply lA | apply lN | apply lD | refine lS ?_ GE282.out | refine lS ?_ GE283.out) | exact HB.out)⟩
/-! ### clinkerref06_put: function 33 -/
def clinkerref06_put.l0 : Nat → List (S44) → List (S44) → Bool → Int → Int → Int → Int → List Int → List Int → Option ((List (S44)))
 | 0, _, _, _, _, _, _, _, _, _ => none
 | k + 1, x0, x5, x6, x7, x285000, x285001, x285002, x285003, x285004 => if x7 < (x0.length : Int) then (if x6 = true then (if 0 ≤ x7 then (if x5.length < 1954687338268 then (clinkerref06_put.l0 k x0 (x5 ++ [(⟨(rd_T44 x0 x7).f0, (⟨(rd_T44 x0 x7).f1.f0, (rd_T44 x0 x7).f1.f1, (rd_T44 x0 x7).f1.f2, (rd_T44 x0 x7).f1.f3⟩ : S42)⟩ : S44)]) x6 (wrap64 (x7 + 1)) x285000 x285001 x285002 x285003 x285004) else (none)) else (none)) else (if 0 ≤ x7 then ((clinkerref06_ahead.f x285000 x285001 x285002 x285003 x285004 ((rd_T44 x0 x7).f0) ((rd_T44 x0 x7).f1.f0) ((rd_T44 x0 x7).f1.f1) ((rd_T44 x0 x7).f1.f2) ((rd_T44 x0 x7).f1.f3)).bind fun t290 => (if t290 = true then (if x5.length < 1954687338268 then ((some (x5 ++ [(⟨x285000, (⟨x285001, x285002, x285003, x285004⟩ : S42)⟩ : S44)] : List (S44))).bind fun y291 => (if y291.length < 1954687338268 then (clinkerref06_put.l0 k x0 (y291 ++ [(⟨(rd_T44 x0 x7).f0, (⟨(rd_T44 x0 x7).f1.f0, (rd_T44 x0 x7).f1.f1, (rd_T44 x0 x7).f1.f2, (rd_T44 x0 x7).f1.f3⟩ : S42)⟩ : S44)]) true (wrap64 (x7 + 1)) x285000 x285001 x285002 x285003 x285004) else (none))) else (none)) else (if x5.length < 1954687338268 then (clinkerref06_put.l0 k x0 (x5 ++ [(⟨(rd_T44 x0 x7).f0, (⟨(rd_T44 x0 x7).f1.f0, (rd_T44 x0 x7).f1.f1, (rd_T44 x0 x7).f1.f2, (rd_T44 x0 x7).f1.f3⟩ : S42)⟩ : S44)]) x6 (wrap64 (x7 + 1)) x285000 x285001 x285002 x285003 x285004) else (none)))) else (none))) else (if x6 = true then (some x5) else (if x5.length < 1954687338268 then (some (x5 ++ [(⟨x285000, (⟨x285001, x285002, x285003, x285004⟩ : S42)⟩ : S44)])) else (none)))
def clinkerref06_put.f (k : Nat) (l0 : List (S44)) (a1_0 : Int) (a1_1 : Int) (a1_2 : Int) (l1_3 : List Int) (l1_4 : List Int) : Option ((List (S44))) := clinkerref06_put.l0 k l0 ([] : List (S44)) false 0 a1_0 a1_1 a1_2 l1_3 l1_4
theorem clinkerref06_put.mono_l : ∀ k, (∀ y0 y1 y2 y3 y4 y5 y6 y7 y8, LeO (clinkerref06_put.l0 k y0 y1 y2 y3 y4 y5 y6 y7 y8) (clinkerref06_put.l0 (k + 1) y0 y1 y2 y3 y4 y5 y6 y7 y8))
 | 0 => fun _ _ _ _ _ _ _ _ _ r h => by simp [clinkerref06_put.l0] at h
 | k + 1 => by
  have ih0 := clinkerref06_put.mono_l k
  ·
   intro y0 y1 y2 y3 y4 y5 y6 y7 y8
   unfold clinkerref06_put.l0
   repeat' first
   | (with_reducible exact ih0 _ _ _ _ _ _ _ _ _)
   | (with_reducible exact LeO.refl _)
   | (with_reducible exact LeO.none _)
   | (with_reducible refine LeO.ite ?_ ?_)
   | (with_reducible refine LeO.bind ?_ (fun _ => ?_))
   | exact ih0 _ _ _ _ _ _ _ _ _
   | exact LeO.none _
   | refine LeO.ite ?_ ?_
   | refine LeO.bind ?_ (fun _ => ?_)
theorem clinkerref06_put.mono : ∀ a0 a1 a2 a3 a4 a5 k, LeO (clinkerref06_put.f k a0 a1 a2 a3 a4 a5) (clinkerref06_put.f (k + 1) a0 a1 a2 a3 a4 a5) := by
 intro a0 a1 a2 a3 a4 a5 k
 have ih0 := clinkerref06_put.mono_l k
 unfold clinkerref06_put.f
 repeat' first
   | (with_reducible exact ih0 _ _ _ _ _ _ _ _ _)
   | (with_reducible exact LeO.refl _)
   | (with_reducible exact LeO.none _)
   | (with_reducible refine LeO.ite ?_ ?_)
   | (with_reducible refine LeO.bind ?_ (fun _ => ?_))
   | exact ih0 _ _ _ _ _ _ _ _ _
   | exact LeO.none _
   | refine LeO.ite ?_ ?_
   | refine LeO.bind ?_ (fun _ => ?_)
def clinkerref06_put.T6 : Bool × List (List Nat × List Nat) := (true, [([], []), ([0], [0]), ([1], [1]), ([2], [2]), ([2], [2]), ([2], [2]), ([4, 5, 2], [2, 4, 5]), ([6, 2], [2, 6]), ([3, 7, 2, 2], [2, 3, 7]), ([2, 8], [2, 8])])
def clinkerref06_put.B6 : List Nat := [0, 1, 3, 7, 7, 7, 55, 119, 255, 511]
theorem clinkerref06_put.tab6 : rtab .any (opsOf Try.f33 6) = clinkerref06_put.T6 := by kernel_rfl
theorem clinkerref06_put.bits6 : waitsOk clinkerref06_put.T6.2 clinkerref06_put.B6 = true := by kernel_rfl
set_option maxHeartbeats 8000000 in
set_option maxRecDepth 100000 in
theorem clinkerref06_put.calls (k : Nat) (P0_ : Nat → Prop) (A0 : Option Addr) (c0 : Nat) (l0 : List (S44)) (a1_0 : Int) (a1_1 : Int) (a1_2 : Int) (P1_3_ : Nat → Prop) (A1_3 : Option Addr) (c1_3 : Nat) (l1_3 : List Int) (P1_4_ : Nat → Prop) (A1_4 : Option Addr) (c1_4 : Nat) (l1_4 : List Int) (r : List (S44)) (w : World) (hs0 : Kd.V k44 44 w w.heap.size (fun k_ => P0_ k_) (.slice A0 l0.length c0) l0) (hs1_3 : Kd.V (Kd.int .i64) 3 w w.heap.size (fun k_ => P1_3_ k_) (.slice A1_3 l1_3.length c1_3) l1_3) (hs1_4 : Kd.V (Kd.int .i64) 3 w w.heap.size (fun k_ => P1_4_ k_) (.slice A1_4 l1_4.length c1_4) l1_4) (h : clinkerref06_put.f k l0 a1_0 a1_1 a1_2 l1_3 l1_4 = some r) :
  Calls Try.prog 33 #[.slice A0 l0.length c0, .agg #[.int .i64 a1_0, .int .i64 a1_1, .int .i64 a1_2, .slice A1_3 l1_3.length c1_3, .slice A1_4 l1_4.length c1_4]] w fun e w' => ∃ v0_ : Value, e = .returned (v0_) ∧ Kd.N k44 44 w' w.heap.size (fun k_ => ((P0_ k_ ∨ P1_3_ k_ ∨ P1_4_ k_) ∨ w.heap.size ≤ k_)) v0_ r ∧ Below w.heap.size w w' := by
 have hu44 := Try.underlying44
 have HO0 := Aside0.mk (show Kd.V k44 44 w w.heap.size (fun k_ => ((P0_ k_ ∨ P1_3_ k_ ∨ P1_4_ k_) ∨ w.heap.size ≤ k_)) (.slice A0 l0.length c0) l0 from Kd.V_mono hs0 (fun k_ hk => .inl (.inl hk)))
 have HO1_3 := Aside0.mk (show Kd.V (Kd.int .i64) 3 w w.heap.size (fun k_ => ((P0_ k_ ∨ P1_3_ k_ ∨ P1_4_ k_) ∨ w.heap.size ≤ k_)) (.slice A1_3 l1_3.length c1_3) l1_3 from Kd.V_mono hs1_3 (fun k_ hk => .inl (.inr (.inl hk))))
 have HO1_4 := Aside0.mk (show Kd.V (Kd.int .i64) 3 w w.heap.size (fun k_ => ((P0_ k_ ∨ P1_3_ k_ ∨ P1_4_ k_) ∨ w.heap.size ≤ k_)) (.slice A1_4 l1_4.length c1_4) l1_4 from Kd.V_mono hs1_4 (fun k_ hk => .inl (.inr (.inr hk))))
 have HB := Aside0.mk (Below.refl w.heap.size w)
 have H : (clinkerref06_put.l0 k l0 ([] : List (S44)) false 0 a1_0 a1_1 a1_2 l1_3 l1_4) = some r := h
 clear h
 have H' := Aside0.mk H
 clear H
 go_enter Try.func33, Try.ntmps33
 go_wp2_with (first | ((with_reducible refine gate_dst (N := 3) rfl ?_); refine box_event ?hg (N := 3) ?hd (cs := #[.int .i64 a1_0, .int .i64 a1_1, .int .i64 a1_2, .slice A1_3 l1_3.length c1_3, .slice A1_4 l1_4.length c1_4]) (t := 44) ?hr ?_; (case hd => rfl); (case hg => rfl); (case hr => first | (go_simp; done) | (go_simp; rfl)); intro gb284 hg w3 hbox hb; replace HO0 := Aside0.mk (Kd.V_below (Kd.V_elderB (mV HO0.out) gb284 (Nat.le_of_eq hg.symm)) hb); replace HO1_3 := Aside0.mk (Kd.V_below (Kd.V_elderB (mV HO1_3.out) gb284 (Nat.le_of_eq hg.symm)) hb); replace HO1_4 := Aside0.mk (Kd.V_below (Kd.V_elderB (mV HO1_4.out) gb284 (Nat.le_of_eq hg.symm)) hb); have BK284 := Aside0.mk (hbox); have GW284 := Aside0.mk ((bz hg : w.heap.size ≤ gb284)); replace HB := Aside0.mk (bst hb); have GE284 := GW284; clear hb hbox hg))
 go_loopg [5, 6, 7] k (fun kq v5 v6 v7 w' => ∃ (x5_1 : List (S44)) (x6_1 : Bool) (x7_1 : Int), v6 = .bool x6_1 ∧ v7 = .int .i64 x7_1 ∧ Aside0 (clinkerref06_put.l0 kq l0 x5_1 x6_1 x7_1 a1_0 a1_1 a1_2 l1_3 l1_4 = some r) ∧ Aside0 (kq ≤ k) ∧ Aside0 (Kd.V k44 44 w' w.heap.size (fun k_ => ((P0_ k_ ∨ P1_3_ k_ ∨ P1_4_ k_) ∨ w.heap.size ≤ k_) ∧ some k_ ≠ (v5 : Value).ownBlock ∧ k_ ≠ gb284) (.slice A0 l0.length c0) l0) ∧ Aside0 (Kd.N k44 44 w' w.heap.size (fun k_ => ((P0_ k_ ∨ P1_3_ k_ ∨ P1_4_ k_) ∨ w.heap.size ≤ k_) ∧ k_ ≠ gb284) v5 x5_1) ∧ Aside0 (Kd.V (Kd.int .i64) 3 w' w.heap.size (fun k_ => ((P0_ k_ ∨ P1_3_ k_ ∨ P1_4_ k_) ∨ w.heap.size ≤ k_) ∧ some k_ ≠ (v5 : Value).ownBlock ∧ k_ ≠ gb284) (.slice A1_3 l1_3.length c1_3) l1_3) ∧ Aside0 (Kd.V (Kd.int .i64) 3 w' w.heap.size (fun k_ => ((P0_ k_ ∨ P1_3_ k_ ∨ P1_4_ k_) ∨ w.heap.size ≤ k_) ∧ some k_ ≠ (v5 : Value).ownBlock ∧ k_ ≠ gb284) (.slice A1_4 l1_4.length c1_4) l1_4) ∧ Aside0 (w'.heap[gb284]? = some (.cells #[.int .i64 a1_0, .int .i64 a1_1, .int .i64 a1_2, (.slice A1_3 l1_3.length c1_3), (.slice A1_4 l1_4.length c1_4)] 44 (0, 0))) ∧ Aside0 (Below w.heap.size w w'))
 case atStart => exact ⟨(([] : List (S44))), (false), (0), (by first | rfl | (simp; done) | (simp [*]; done)), (by first | rfl | (simp; done) | (simp [*]; done)), H', ⟨Nat.le_refl _⟩, ⟨by (with_reducible repeat (first | apply vA | apply vN | apply vD)); exact Kd.V_mono HO0.out (fun _ hk => ⟨hk.1, ⟨(by simp [Value.ownBlock]), hk.2⟩⟩)⟩, ⟨by first | exact Kd.S_nil _ _ _ _ _ | exact Kd.N_nil _ _ _ _ _ | exact Kd.V_nil _ _ _ _ _ | exact Kd.Q_nil _ _ _ _ _ | exact Kd.R_nil _ _ _ _ _⟩, ⟨by (with_reducible repeat (first | apply vA | apply vN | apply vD)); exact Kd.V_mono HO1_3.out (fun _ hk => ⟨hk.1, ⟨(by simp [Value.ownBlock]), hk.2⟩⟩)⟩, ⟨by (with_reducible repeat (first | apply vA | apply vN | apply vD)); exact Kd.V_mono HO1_4.out (fun _ hk => ⟨hk.1, ⟨(by simp [Value.ownBlock]), hk.2⟩⟩)⟩, ⟨mB BK284.out⟩, ⟨mH⟩⟩
 case round =>
  clear H'
  try clear c1
  try clear p2
  try clear c3
  obtain ⟨x5_1, x6_1, x7_1, rfl, rfl, HA, HK1, HO_0, HO_5, HO_285003, HO_285004, BK284, HB⟩ := hrel
  cases gk with
  | zero => exact absurd HA.out (by simp [clinkerref06_put.l0])
  | succ k1 =>
   have H := HA.out
   clear HA
   simp only [clinkerref06_put.l0] at H
   by_cases c4 : x7_1 < (l0.length : Int)
   case neg =>
    rw [if_neg c4] at H
    have c4b0 : decide (x7_1 < (l0.length : Int)) = false := decide_eq_false c4
    clear c4
    by_cases c24 : x6_1 = true
    case pos =>
     subst c24
     have H1 : (some x5_1) = some r := by rw [if_pos rfl] at H; exact H
     clear H
     have H := H1
     clear H1
     obtain rfl := Option.some.inj H
     go_wp2
     go_ret
     exact ⟨_, by first | rfl | (simp [errW_none, errW_some] <;> rfl) | (simp [*, errW_none, errW_some] <;> rfl), by (with_reducible repeat (first | apply Kd.N_alloc | apply Kd.N_drewN | apply Kd.N_drew)); exact Kd.N_mono HO_5.out (fun _ hk => hk.1), by repeat (first | exact HB.out | apply lA | apply lN | apply lD | refine lS ?_ GE284.out)⟩
    replace c24 := Bool.eq_false_iff.mpr c24
    subst c24
    have H1 : (if x5_1.length < 1954687338268 then (some (x5_1 ++ [(⟨a1_0, (⟨a1_1, a1_2, l1_3, l1_4⟩ : S42)⟩ : S44)])) else (none)) = some r := by rw [if_neg (show ¬ (false = true) by decide)] at H; exact H
    clear H
    have H := H1
    clear H1
    by_cases c25 : x5_1.length < 1954687338268
    case neg =>
     rw [if_neg c25] at H
     exact absurd H (by simp)
    rw [if_pos c25] at H
    have LMc25 := Aside0.mk c25
    clear c25
    obtain ⟨y302, hy302⟩ : ∃ y_ : List (S44), y_ = (x5_1 ++ [(⟨a1_0, (⟨a1_1, a1_2, l1_3, l1_4⟩ : S42)⟩ : S44)]) := ⟨_, rfl⟩
    replace H : (some y302) = some r := by first | (rw [hy302]; with_reducible exact H) | (have H2_ := (Option.bind_some _ _).symm.trans H; rw [hy302]; with_reducible exact H2_) | (have H2_ := (Option.bind_some _ _).symm.trans H; with_reducible exact H2_) | with_reducible exact H | (rw [hy302]; exact H) | exact H
    have Ny302 := Aside0.mk hy302
    clear hy302
    obtain rfl := Option.some.inj H
    obtain ⟨hcz26_0, hcz26_1, hcz26_2, hcz26_3, hcz26_4, hfz26_0, hfz26_1, hfz26_2, hfz26_3, hfz26_4⟩ := kc5 BK284.out
    go_wp2_with (first | ((with_reducible refine gate_builtin (b := .append) (xs := #[.tmp 37, .tmp 39]) rfl ?_); at_builtin; refine Kd.N_append k44 (w0 := w) w.heap.size rfl (.tmp 37) (.tmp 39) 39 44 (.agg #[(.int .i64 0), (.int .i64 0), (.int .i64 0), (.slice none 0 0), (.slice none 0 0)]) 72 rfl Try.underlying39 info44 rfl (by decide) (by omega) u5 x5_1 (⟨a1_0, (⟨a1_1, a1_2, l1_3, l1_4⟩ : S42)⟩ : S44) [.int .i64 a1_0, .int .i64 a1_1, .int .i64 a1_2, .slice A1_3 l1_3.length c1_3, .slice A1_4 l1_4.length c1_4] (fun k_ => ((P0_ k_ ∨ P1_3_ k_ ∨ P1_4_ k_) ∨ w.heap.size ≤ k_) ∧ k_ ≠ gb284) (fun k_ => ((fun k_ => ((P0_ k_ ∨ P1_3_ k_ ∨ P1_4_ k_) ∨ w.heap.size ≤ k_) ∧ k_ ≠ gb284)) k_ ∧ some k_ ≠ (u5 : Value).ownBlock) rfl rfl ?aP (fun _ hk => hk) ?aF ?aO ?aB ?aS ?aL ?_; (case aP => exact (k44_mkF _ _ (⟨a1_0, (⟨a1_1, a1_2, l1_3, l1_4⟩ : S42)⟩ : S44) (Kd.V_reads' (Kd.V_mono (ok' := (fun k_ => ((fun k_ => ((P0_ k_ ∨ P1_3_ k_ ∨ P1_4_ k_) ∨ w.heap.size ≤ k_) ∧ k_ ≠ gb284)) k_ ∧ some k_ ≠ (u5 : Value).ownBlock)) (HO_285003.out) (fun k_ hk => ⟨⟨hk.1, hk.2.2⟩, hk.2.1⟩))).2.1 (Kd.V_F (Kd.V_mono (ok' := (fun k_ => ((fun k_ => ((P0_ k_ ∨ P1_3_ k_ ∨ P1_4_ k_) ∨ w.heap.size ≤ k_) ∧ k_ ≠ gb284)) k_ ∧ some k_ ≠ (u5 : Value).ownBlock)) (HO_285003.out) (fun k_ hk => ⟨⟨hk.1, hk.2.2⟩, hk.2.1⟩))) (Kd.V_reads' (Kd.V_mono (ok' := (fun k_ => ((fun k_ => ((P0_ k_ ∨ P1_3_ k_ ∨ P1_4_ k_) ∨ w.heap.size ≤ k_) ∧ k_ ≠ gb284)) k_ ∧ some k_ ≠ (u5 : Value).ownBlock)) (HO_285004.out) (fun k_ hk => ⟨⟨hk.1, hk.2.2⟩, hk.2.1⟩))).2.1 (Kd.V_F (Kd.V_mono (ok' := (fun k_ => ((fun k_ => ((P0_ k_ ∨ P1_3_ k_ ∨ P1_4_ k_) ∨ w.heap.size ≤ k_) ∧ k_ ≠ gb284)) k_ ∧ some k_ ≠ (u5 : Value).ownBlock)) (HO_285004.out) (fun k_ hk => ⟨⟨hk.1, hk.2.2⟩, hk.2.1⟩))))); (case aB => exact (by repeat (first | exact HB.out | apply lA | apply lN | apply lD | refine lS ?_ GE284.out))); (case aF => exact (fun k_ hk => ⟨(.inr (Nat.le_trans bsz hk)), Kd.freshB (g := gb284) (o := .cells #[.int .i64 a1_0, .int .i64 a1_1, .int .i64 a1_2, .slice A1_3 l1_3.length c1_3, .slice A1_4 l1_4.length c1_4] 44 (0, 0)) (mB BK284.out) k_ hk⟩)); (case aO => exact (mN HO_5.out)); (case aS => exact bsz); (case aL => have := LMc25.out; omega); intro v303 w27 ho hb hg hat; rw [← Ny302.out] at ho; have n0_ := Aside0.mk (Kd.V_afterv (ok := (fun k_ => ((P0_ k_ ∨ P1_3_ k_ ∨ P1_4_ k_) ∨ w.heap.size ≤ k_) ∧ k_ ≠ gb284)) (by (with_reducible repeat (first | apply vA | apply vN | apply vD)); exact Kd.V_mono HO_0.out (fun _ hk => ⟨⟨hk.1, hk.2.2⟩, hk.2.1⟩)) hg hat); have n1_ := Aside0.mk (Kd.V_afterv (ok := (fun k_ => ((P0_ k_ ∨ P1_3_ k_ ∨ P1_4_ k_) ∨ w.heap.size ≤ k_) ∧ k_ ≠ gb284)) (by (with_reducible repeat (first | apply vA | apply vN | apply vD)); exact Kd.V_mono HO_285003.out (fun _ hk => ⟨⟨hk.1, hk.2.2⟩, hk.2.1⟩)) hg hat); have n2_ := Aside0.mk (Kd.V_afterv (ok := (fun k_ => ((P0_ k_ ∨ P1_3_ k_ ∨ P1_4_ k_) ∨ w.heap.size ≤ k_) ∧ k_ ≠ gb284)) (by (with_reducible repeat (first | apply vA | apply vN | apply vD)); exact Kd.V_mono HO_285004.out (fun _ hk => ⟨⟨hk.1, hk.2.2⟩, hk.2.1⟩)) hg hat); have n3_ := Aside0.mk (bg BK284.out hg (Kd.N_away HO_5.out (fun _ hk => hk.2))); have n4_ := Aside0.mk (hb); have n5_ := Aside0.mk (ho); clear HO_0; clear HO_285003; clear HO_285004; clear BK284; clear HB; clear HO_5; have HO_0 := n0_; have HO_285003 := n1_; have HO_285004 := n2_; have BK284 := n3_; have HB := n4_; have HO304 := n5_; clear n0_ n1_ n2_ n3_ n4_ n5_; clear ho hb hg hat))
    go_ret
    exact ⟨_, by first | rfl | (simp [errW_none, errW_some] <;> rfl) | (simp [*, errW_none, errW_some] <;> rfl), by (with_reducible repeat (first | apply Kd.N_alloc | apply Kd.N_drewN | apply Kd.N_drew)); exact Kd.N_mono HO304.out (fun _ hk => hk.1), by repeat (first | exact HB.out | apply lA | apply lN | apply lD | refine lS ?_ GE284.out)⟩
   rw [if_pos c4] at H
   have c4b0 : decide (x7_1 < (l0.length : Int)) = true := decide_eq_true c4
   clear c4
   by_cases c5 : x6_1 = true
   case pos =>
    subst c5
    have H1 : (if 0 ≤ x7_1 then (if x5_1.length < 1954687338268 then (clinkerref06_put.l0 k1 l0 (x5_1 ++ [(⟨(rd_T44 l0 x7_1).f0, (⟨(rd_T44 l0 x7_1).f1.f0, (rd_T44 l0 x7_1).f1.f1, (rd_T44 l0 x7_1).f1.f2, (rd_T44 l0 x7_1).f1.f3⟩ : S42)⟩ : S44)]) true (wrap64 (x7_1 + 1)) a1_0 a1_1 a1_2 l1_3 l1_4) else (none)) else (none)) = some r := by rw [if_pos rfl] at H; exact H
    clear H
    have H := H1
    clear H1
    by_cases c6 : 0 ≤ x7_1
    case neg =>
     rw [if_neg c6] at H
     exact absurd H (by simp)
    rw [if_pos c6] at H
    have c6b0 : decide (0 ≤ x7_1) = true := decide_eq_true c6
    clear c6
    by_cases c7 : x5_1.length < 1954687338268
    case neg =>
     rw [if_neg c7] at H
     exact absurd H (by simp)
    rw [if_pos c7] at H
    have LMc7 := Aside0.mk c7
    clear c7
    obtain ⟨y286, hy286⟩ : ∃ y_ : List (S44), y_ = (x5_1 ++ [(⟨(rd_T44 l0 x7_1).f0, (⟨(rd_T44 l0 x7_1).f1.f0, (rd_T44 l0 x7_1).f1.f1, (rd_T44 l0 x7_1).f1.f2, (rd_T44 l0 x7_1).f1.f3⟩ : S42)⟩ : S44)]) := ⟨_, rfl⟩
    replace H : (clinkerref06_put.l0 k1 l0 y286 true (wrap64 (x7_1 + 1)) a1_0 a1_1 a1_2 l1_3 l1_4) = some r := by first | (rw [hy286]; with_reducible exact H) | (have H2_ := (Option.bind_some _ _).symm.trans H; rw [hy286]; with_reducible exact H2_) | (have H2_ := (Option.bind_some _ _).symm.trans H; with_reducible exact H2_) | with_reducible exact H | (rw [hy286]; exact H) | exact H
    have Ny286 := Aside0.mk hy286
    clear hy286
    have H' := Aside0.mk H
    clear H
    try go_wp2
    replace HO_0 := Aside0.mk (vD HO_0.out)
    replace HO_5 := Aside0.mk (Kd.N_drew HO_5.out)
    replace HO_285003 := Aside0.mk (vD HO_285003.out)
    replace HO_285004 := Aside0.mk (vD HO_285004.out)
    replace BK284 := Aside0.mk (bD BK284.out)
    replace HB := Aside0.mk (lD HB.out)
    refine start_ (n := 10) (S := fun w' => True) (ds := []) q0k16 (by kernel_rfl) rfl rfl trivial (fun hHeld => ?_); refine with_tabW clinkerref06_put.tab6 clinkerref06_put.bits6 (fun HT_ HW_ => ?_)
    generalize wr.drew = w8 at HO_0 HO_5 HO_285003 HO_285004 BK284 HB hHeld ⊢
    refine pa 0 (some 14) ?_
    refine pa 1 (some 15) ?_
    refine pa 2 (some 16) ?_
    refine pc 3 (some 17) ?_
    refine pc 4 (some 18) ?_
    refine pc 5 (some 19) ?_
    refine pc 6 (some 20) ?_
    refine pc 7 (some 21) ?_
    refine pc 8 (some 22) ?_
    refine pa 9 (some 23) ?_
    refine done_ (done_of HT_.out (by kernel_rfl)) ?_
    have p285 : 0 ≤ (x7_1 : Int) := of_decide_eq_true (by first | (with_reducible assumption) | assumption)
    have q285 : x7_1 < (l0.length : Int) := of_decide_eq_true (by first | (with_reducible assumption) | assumption)
    obtain ⟨ad285, A285_3, c285_3, A285_4, c285_4, e285, hx285_0, hx285_1, hx285_2, hx285_3, hx285_4, hl285_3, hi285_3, hl285_4, hi285_4⟩ := at_T44 (Kd.V_reads' HO_0.out).2.2 x7_1 p285 q285
    cases e285
    obtain ⟨ce285, hce285, hMe285, hcc285⟩ := Kd.V_get HO_0.out z44 x7_1 p285 (by first | exact q285 | exact of_decide_eq_true (by first | (with_reducible assumption) | assumption) | (have e_ := (Kd.V_reads' HO_0.out).1; omega))
    obtain ⟨ua285_3, uc285_3, ua285_4, uc285_4, rfl, ul285_3, ge285_3, ul285_4, ge285_4⟩ := k44_openF hMe285
    have hv285_3 := hcc285 3 _ rfl
    rw [add_field _ _ 3 (by omega)] at hv285_3
    replace hv285_3 := Option.some.inj (hv285_3.symm.trans hx285_3)
    injection hv285_3 with hva_ hvn_ hvc_
    rw [hva_] at ge285_3
    rw [hvc_] at ul285_3
    have HL285_3 := Aside0.mk (show Kd.V (Kd.int .i64) 3 _ w.heap.size _ _ ((rd_T44 l0 x7_1).f1.f2) from Kd.V_mk ul285_3 ge285_3)
    clear hva_ hvn_ hvc_ ge285_3 ul285_3
    have hv285_4 := hcc285 4 _ rfl
    rw [add_field _ _ 4 (by omega)] at hv285_4
    replace hv285_4 := Option.some.inj (hv285_4.symm.trans hx285_4)
    injection hv285_4 with hva_ hvn_ hvc_
    rw [hva_] at ge285_4
    rw [hvc_] at ul285_4
    have HL285_4 := Aside0.mk (show Kd.V (Kd.int .i64) 3 _ w.heap.size _ _ ((rd_T44 l0 x7_1).f1.f3) from Kd.V_mk ul285_4 ge285_4)
    clear hva_ hvn_ hvc_ ge285_4 ul285_4
    clear hcc285 hce285
    have HR285_3 := Aside0.mk hi285_3
    have HC285_3 := Aside0.mk hl285_3
    clear hi285_3 hl285_3
    have HR285_4 := Aside0.mk hi285_4
    have HC285_4 := Aside0.mk hl285_4
    clear hi285_4 hl285_4
    replace p285 := eq_true p285
    replace q285 := eq_true q285
    try go_wp2_with (first | ((with_reducible refine gate_builtin (b := .append) (xs := #[.tmp 28, .tmp 33]) rfl ?_); at_builtin; refine Kd.N_append k44 (w0 := w) w.heap.size rfl (.tmp 28) (.tmp 33) 39 44 (.agg #[(.int .i64 0), (.int .i64 0), (.int .i64 0), (.slice none 0 0), (.slice none 0 0)]) 72 rfl Try.underlying39 info44 rfl (by decide) (by omega) u5 x5_1 (⟨(rd_T44 l0 x7_1).f0, (⟨(rd_T44 l0 x7_1).f1.f0, (rd_T44 l0 x7_1).f1.f1, (rd_T44 l0 x7_1).f1.f2, (rd_T44 l0 x7_1).f1.f3⟩ : S42)⟩ : S44) [.int .i64 ((rd_T44 l0 x7_1).f0), .int .i64 ((rd_T44 l0 x7_1).f1.f0), .int .i64 ((rd_T44 l0 x7_1).f1.f1), .slice A285_3 ((rd_T44 l0 x7_1).f1.f2).length c285_3, .slice A285_4 ((rd_T44 l0 x7_1).f1.f3).length c285_4] (fun k_ => ((P0_ k_ ∨ P1_3_ k_ ∨ P1_4_ k_) ∨ w.heap.size ≤ k_) ∧ k_ ≠ gb284) (fun k_ => ((fun k_ => ((P0_ k_ ∨ P1_3_ k_ ∨ P1_4_ k_) ∨ w.heap.size ≤ k_) ∧ k_ ≠ gb284)) k_ ∧ some k_ ≠ (u5 : Value).ownBlock) rfl rfl ?aP (fun _ hk => hk) ?aF ?aO ?aB ?aS ?aL ?_; (case aP => exact (k44_mkF _ _ (⟨(rd_T44 l0 x7_1).f0, (⟨(rd_T44 l0 x7_1).f1.f0, (rd_T44 l0 x7_1).f1.f1, (rd_T44 l0 x7_1).f1.f2, (rd_T44 l0 x7_1).f1.f3⟩ : S42)⟩ : S44) (Kd.V_reads' (Kd.V_mono (ok' := (fun k_ => ((fun k_ => ((P0_ k_ ∨ P1_3_ k_ ∨ P1_4_ k_) ∨ w.heap.size ≤ k_) ∧ k_ ≠ gb284)) k_ ∧ some k_ ≠ (u5 : Value).ownBlock)) (HL285_3.out) (fun k_ hk => ⟨⟨hk.1, hk.2.2⟩, hk.2.1⟩))).2.1 (Kd.V_F (Kd.V_mono (ok' := (fun k_ => ((fun k_ => ((P0_ k_ ∨ P1_3_ k_ ∨ P1_4_ k_) ∨ w.heap.size ≤ k_) ∧ k_ ≠ gb284)) k_ ∧ some k_ ≠ (u5 : Value).ownBlock)) (HL285_3.out) (fun k_ hk => ⟨⟨hk.1, hk.2.2⟩, hk.2.1⟩))) (Kd.V_reads' (Kd.V_mono (ok' := (fun k_ => ((fun k_ => ((P0_ k_ ∨ P1_3_ k_ ∨ P1_4_ k_) ∨ w.heap.size ≤ k_) ∧ k_ ≠ gb284)) k_ ∧ some k_ ≠ (u5 : Value).ownBlock)) (HL285_4.out) (fun k_ hk => ⟨⟨hk.1, hk.2.2⟩, hk.2.1⟩))).2.1 (Kd.V_F (Kd.V_mono (ok' := (fun k_ => ((fun k_ => ((P0_ k_ ∨ P1_3_ k_ ∨ P1_4_ k_) ∨ w.heap.size ≤ k_) ∧ k_ ≠ gb284)) k_ ∧ some k_ ≠ (u5 : Value).ownBlock)) (HL285_4.out) (fun k_ hk => ⟨⟨hk.1, hk.2.2⟩, hk.2.1⟩))))); (case aB => exact (by repeat (first | exact HB.out | apply lA | apply lN | apply lD | refine lS ?_ GE284.out))); (case aF => exact (fun k_ hk => ⟨(.inr (Nat.le_trans bsz hk)), Kd.freshB (g := gb284) (o := .cells #[.int .i64 a1_0, .int .i64 a1_1, .int .i64 a1_2, .slice A1_3 l1_3.length c1_3, .slice A1_4 l1_4.length c1_4] 44 (0, 0)) (mB BK284.out) k_ hk⟩)); (case aO => exact (mN HO_5.out)); (case aS => exact bsz); (case aL => have := LMc7.out; omega); intro v287 w9 ho hb hg hat; rw [← Ny286.out] at ho; have n0_ := Aside0.mk (Kd.V_afterv (ok := (fun k_ => ((P0_ k_ ∨ P1_3_ k_ ∨ P1_4_ k_) ∨ w.heap.size ≤ k_) ∧ k_ ≠ gb284)) (by (with_reducible repeat (first | apply vA | apply vN | apply vD)); exact Kd.V_mono HO_0.out (fun _ hk => ⟨⟨hk.1, hk.2.2⟩, hk.2.1⟩)) hg hat); have n1_ := Aside0.mk (Kd.V_afterv (ok := (fun k_ => ((P0_ k_ ∨ P1_3_ k_ ∨ P1_4_ k_) ∨ w.heap.size ≤ k_) ∧ k_ ≠ gb284)) (by (with_reducible repeat (first | apply vA | apply vN | apply vD)); exact Kd.V_mono HO_285003.out (fun _ hk => ⟨⟨hk.1, hk.2.2⟩, hk.2.1⟩)) hg hat); have n2_ := Aside0.mk (Kd.V_afterv (ok := (fun k_ => ((P0_ k_ ∨ P1_3_ k_ ∨ P1_4_ k_) ∨ w.heap.size ≤ k_) ∧ k_ ≠ gb284)) (by (with_reducible repeat (first | apply vA | apply vN | apply vD)); exact Kd.V_mono HO_285004.out (fun _ hk => ⟨⟨hk.1, hk.2.2⟩, hk.2.1⟩)) hg hat); have n3_ := Aside0.mk (bg BK284.out hg (Kd.N_away HO_5.out (fun _ hk => hk.2))); have n4_ := Aside0.mk (Kd.V_afterv (ok := (fun k_ => ((P0_ k_ ∨ P1_3_ k_ ∨ P1_4_ k_) ∨ w.heap.size ≤ k_) ∧ k_ ≠ gb284)) (by (with_reducible repeat (first | apply vA | apply vN | apply vD)); exact Kd.V_mono HL285_3.out (fun _ hk => ⟨⟨hk.1, hk.2.2⟩, hk.2.1⟩)) hg hat); have n5_ := Aside0.mk (Kd.V_afterv (ok := (fun k_ => ((P0_ k_ ∨ P1_3_ k_ ∨ P1_4_ k_) ∨ w.heap.size ≤ k_) ∧ k_ ≠ gb284)) (by (with_reducible repeat (first | apply vA | apply vN | apply vD)); exact Kd.V_mono HL285_4.out (fun _ hk => ⟨⟨hk.1, hk.2.2⟩, hk.2.1⟩)) hg hat); have n6_ := Aside0.mk (hb); have n7_ := Aside0.mk (ho); clear HO_0; clear HO_285003; clear HO_285004; clear BK284; clear HL285_3; clear HL285_4; clear HB; clear HO_5; have HO_0 := n0_; have HO_285003 := n1_; have HO_285004 := n2_; have BK284 := n3_; have HL285_3 := n4_; have HL285_4 := n5_; have HB := n6_; have HO288 := n7_; clear n0_ n1_ n2_ n3_ n4_ n5_ n6_ n7_; clear ho hb hg hat))
    go_roundg k1
    case measure => have := HK1.out; omega
    case rel => exact ⟨(y286), (true), (wrap64 (x7_1 + 1)), (by first | rfl | (simp; done) | (simp [*]; done)), (by first | rfl | (simp; done) | (simp [*]; done)), H', ⟨by have := HK1.out; omega⟩, ⟨by (with_reducible repeat (first | apply vA | apply vN | apply vD)); exact Kd.V_mono HO_0.out (fun _ hk => ⟨hk.1.1, ⟨hk.2, hk.1.2⟩⟩)⟩, ⟨mN HO288.out⟩, ⟨by (with_reducible repeat (first | apply vA | apply vN | apply vD)); exact Kd.V_mono HO_285003.out (fun _ hk => ⟨hk.1.1, ⟨hk.2, hk.1.2⟩⟩)⟩, ⟨by (with_reducible repeat (first | apply vA | apply vN | apply vD)); exact Kd.V_mono HO_285004.out (fun _ hk => ⟨hk.1.1, ⟨hk.2, hk.1.2⟩⟩)⟩, ⟨mB BK284.out⟩, ⟨mH⟩⟩
   replace c5 := Bool.eq_false_iff.mpr c5
   subst c5
   have H1 : (if 0 ≤ x7_1 then ((clinkerref06_ahead.f a1_0 a1_1 a1_2 l1_3 l1_4 ((rd_T44 l0 x7_1).f0) ((rd_T44 l0 x7_1).f1.f0) ((rd_T44 l0 x7_1).f1.f1) ((rd_T44 l0 x7_1).f1.f2) ((rd_T44 l0 x7_1).f1.f3)).bind fun t290 => (if t290 = true then (if x5_1.length < 1954687338268 then ((some (x5_1 ++ [(⟨a1_0, (⟨a1_1, a1_2, l1_3, l1_4⟩ : S42)⟩ : S44)] : List (S44))).bind fun y291 => (if y291.length < 1954687338268 then (clinkerref06_put.l0 k1 l0 (y291 ++ [(⟨(rd_T44 l0 x7_1).f0, (⟨(rd_T44 l0 x7_1).f1.f0, (rd_T44 l0 x7_1).f1.f1, (rd_T44 l0 x7_1).f1.f2, (rd_T44 l0 x7_1).f1.f3⟩ : S42)⟩ : S44)]) true (wrap64 (x7_1 + 1)) a1_0 a1_1 a1_2 l1_3 l1_4) else (none))) else (none)) else (if x5_1.length < 1954687338268 then (clinkerref06_put.l0 k1 l0 (x5_1 ++ [(⟨(rd_T44 l0 x7_1).f0, (⟨(rd_T44 l0 x7_1).f1.f0, (rd_T44 l0 x7_1).f1.f1, (rd_T44 l0 x7_1).f1.f2, (rd_T44 l0 x7_1).f1.f3⟩ : S42)⟩ : S44)]) false (wrap64 (x7_1 + 1)) a1_0 a1_1 a1_2 l1_3 l1_4) else (none)))) else (none)) = some r := by rw [if_neg (show ¬ (false = true) by decide)] at H; exact H
   clear H
   have H := H1
   clear H1
   by_cases c10 : 0 ≤ x7_1
   case neg =>
    rw [if_neg c10] at H
    exact absurd H (by simp)
   rw [if_pos c10] at H
   have c10b0 : decide (0 ≤ x7_1) = true := decide_eq_true c10
   clear c10
   replace H := Option.bind_eq_some_iff.mp H
   obtain ⟨t290, A110, H⟩ := H
   replace H : (if t290 = true then (if x5_1.length < 1954687338268 then ((some (x5_1 ++ [(⟨a1_0, (⟨a1_1, a1_2, l1_3, l1_4⟩ : S42)⟩ : S44)] : List (S44))).bind fun y291 => (if y291.length < 1954687338268 then (clinkerref06_put.l0 k1 l0 (y291 ++ [(⟨(rd_T44 l0 x7_1).f0, (⟨(rd_T44 l0 x7_1).f1.f0, (rd_T44 l0 x7_1).f1.f1, (rd_T44 l0 x7_1).f1.f2, (rd_T44 l0 x7_1).f1.f3⟩ : S42)⟩ : S44)]) true (wrap64 (x7_1 + 1)) a1_0 a1_1 a1_2 l1_3 l1_4) else (none))) else (none)) else (if x5_1.length < 1954687338268 then (clinkerref06_put.l0 k1 l0 (x5_1 ++ [(⟨(rd_T44 l0 x7_1).f0, (⟨(rd_T44 l0 x7_1).f1.f0, (rd_T44 l0 x7_1).f1.f1, (rd_T44 l0 x7_1).f1.f2, (rd_T44 l0 x7_1).f1.f3⟩ : S42)⟩ : S44)]) false (wrap64 (x7_1 + 1)) a1_0 a1_1 a1_2 l1_3 l1_4) else (none))) = some r := H
   have A11 := Aside0.mk A110
   clear A110
   by_cases c12 : t290 = true
   case neg =>
    replace c12 := Bool.eq_false_iff.mpr c12
    subst c12
    have H1 : (if x5_1.length < 1954687338268 then (clinkerref06_put.l0 k1 l0 (x5_1 ++ [(⟨(rd_T44 l0 x7_1).f0, (⟨(rd_T44 l0 x7_1).f1.f0, (rd_T44 l0 x7_1).f1.f1, (rd_T44 l0 x7_1).f1.f2, (rd_T44 l0 x7_1).f1.f3⟩ : S42)⟩ : S44)]) false (wrap64 (x7_1 + 1)) a1_0 a1_1 a1_2 l1_3 l1_4) else (none)) = some r := by rw [if_neg (show ¬ (false = true) by decide)] at H; exact H
    clear H
    have H := H1
    clear H1
    by_cases c20 : x5_1.length < 1954687338268
    case neg =>
     rw [if_neg c20] at H
     exact absurd H (by simp)
    rw [if_pos c20] at H
    have LMc20 := Aside0.mk c20
    clear c20
    obtain ⟨y299, hy299⟩ : ∃ y_ : List (S44), y_ = (x5_1 ++ [(⟨(rd_T44 l0 x7_1).f0, (⟨(rd_T44 l0 x7_1).f1.f0, (rd_T44 l0 x7_1).f1.f1, (rd_T44 l0 x7_1).f1.f2, (rd_T44 l0 x7_1).f1.f3⟩ : S42)⟩ : S44)]) := ⟨_, rfl⟩
    replace H : (clinkerref06_put.l0 k1 l0 y299 false (wrap64 (x7_1 + 1)) a1_0 a1_1 a1_2 l1_3 l1_4) = some r := by first | (rw [hy299]; with_reducible exact H) | (have H2_ := (Option.bind_some _ _).symm.trans H; rw [hy299]; with_reducible exact H2_) | (have H2_ := (Option.bind_some _ _).symm.trans H; with_reducible exact H2_) | with_reducible exact H | (rw [hy299]; exact H) | exact H
    have Ny299 := Aside0.mk hy299
    clear hy299
    have H' := Aside0.mk H
    clear H
    try go_wp2
    replace HO_0 := Aside0.mk (vD HO_0.out)
    replace HO_5 := Aside0.mk (Kd.N_drew HO_5.out)
    replace HO_285003 := Aside0.mk (vD HO_285003.out)
    replace HO_285004 := Aside0.mk (vD HO_285004.out)
    replace BK284 := Aside0.mk (bD BK284.out)
    replace HB := Aside0.mk (lD HB.out)
    have p289 : 0 ≤ (x7_1 : Int) := of_decide_eq_true (by first | (with_reducible assumption) | assumption)
    have q289 : x7_1 < (l0.length : Int) := of_decide_eq_true (by first | (with_reducible assumption) | assumption)
    obtain ⟨ad289, A289_3, c289_3, A289_4, c289_4, e289, hx289_0, hx289_1, hx289_2, hx289_3, hx289_4, hl289_3, hi289_3, hl289_4, hi289_4⟩ := at_T44 (Kd.V_reads' HO_0.out).2.2 x7_1 p289 q289
    cases e289
    obtain ⟨ce289, hce289, hMe289, hcc289⟩ := Kd.V_get HO_0.out z44 x7_1 p289 (by first | exact q289 | exact of_decide_eq_true (by first | (with_reducible assumption) | assumption) | (have e_ := (Kd.V_reads' HO_0.out).1; omega))
    obtain ⟨ua289_3, uc289_3, ua289_4, uc289_4, rfl, ul289_3, ge289_3, ul289_4, ge289_4⟩ := k44_openF hMe289
    have hv289_3 := hcc289 3 _ rfl
    rw [add_field _ _ 3 (by omega)] at hv289_3
    replace hv289_3 := Option.some.inj (hv289_3.symm.trans hx289_3)
    injection hv289_3 with hva_ hvn_ hvc_
    rw [hva_] at ge289_3
    rw [hvc_] at ul289_3
    have HL289_3 := Aside0.mk (show Kd.V (Kd.int .i64) 3 _ w.heap.size _ _ ((rd_T44 l0 x7_1).f1.f2) from Kd.V_mk ul289_3 ge289_3)
    clear hva_ hvn_ hvc_ ge289_3 ul289_3
    have hv289_4 := hcc289 4 _ rfl
    rw [add_field _ _ 4 (by omega)] at hv289_4
    replace hv289_4 := Option.some.inj (hv289_4.symm.trans hx289_4)
    injection hv289_4 with hva_ hvn_ hvc_
    rw [hva_] at ge289_4
    rw [hvc_] at ul289_4
    have HL289_4 := Aside0.mk (show Kd.V (Kd.int .i64) 3 _ w.heap.size _ _ ((rd_T44 l0 x7_1).f1.f3) from Kd.V_mk ul289_4 ge289_4)
    clear hva_ hvn_ hvc_ ge289_4 ul289_4
    clear hcc289 hce289
    have HR289_3 := Aside0.mk hi289_3
    have HC289_3 := Aside0.mk hl289_3
    clear hi289_3 hl289_3
    have HR289_4 := Aside0.mk hi289_4
    have HC289_4 := Aside0.mk hl289_4
    clear hi289_4 hl289_4
    replace p289 := eq_true p289
    replace q289 := eq_true q289
    refine start_ (n := 10) (S := fun w' => w'.cell? ⟨gb284, 0, none⟩ = some (.int .i64 a1_0) ∧ w'.cell? ⟨gb284, 1, none⟩ = some (.int .i64 a1_1) ∧ w'.cell? ⟨gb284, 2, none⟩ = some (.int .i64 a1_2) ∧ w'.cell? ⟨gb284, 3, none⟩ = some (.slice A1_3 l1_3.length c1_3) ∧ w'.cell? ⟨gb284, 4, none⟩ = some (.slice A1_4 l1_4.length c1_4) ∧ w'.cell? (ad289.add ((x7_1).toNat * 5)) = some (.int .i64 ((rd_T44 l0 x7_1).f0)) ∧ w'.cell? ⟨(ad289.add ((x7_1).toNat * 5)).block, (ad289.add ((x7_1).toNat * 5)).off + 1, none⟩ = some (.int .i64 ((rd_T44 l0 x7_1).f1.f0)) ∧ w'.cell? ⟨(ad289.add ((x7_1).toNat * 5)).block, (ad289.add ((x7_1).toNat * 5)).off + 2, none⟩ = some (.int .i64 ((rd_T44 l0 x7_1).f1.f1)) ∧ w'.cell? ⟨(ad289.add ((x7_1).toNat * 5)).block, (ad289.add ((x7_1).toNat * 5)).off + 3, none⟩ = some (.slice A289_3 ((rd_T44 l0 x7_1).f1.f2).length c289_3) ∧ w'.cell? ⟨(ad289.add ((x7_1).toNat * 5)).block, (ad289.add ((x7_1).toNat * 5)).off + 4, none⟩ = some (.slice A289_4 ((rd_T44 l0 x7_1).f1.f3).length c289_4)) (ds := []) q0k16 (by kernel_rfl) rfl rfl ⟨(blk_cell BK284.out 0).trans rfl, (blk_cell BK284.out 1).trans rfl, (blk_cell BK284.out 2).trans rfl, (blk_cell BK284.out 3).trans rfl, (blk_cell BK284.out 4).trans rfl, hx289_0, hx289_1, hx289_2, hx289_3, hx289_4⟩ (fun hHeld => ?_); refine with_tabW clinkerref06_put.tab6 clinkerref06_put.bits6 (fun HT_ HW_ => ?_)
    generalize wr.drew = w21 at HO_0 HO_5 HO_285003 HO_285004 BK284 HB HL289_3 HL289_4 HR289_3 HR289_4 hx289_0 hx289_1 hx289_2 hx289_3 hx289_4 hHeld ⊢
    refine pa 0 (some 14) ?_
    refine pa 1 (some 15) ?_
    refine pa 2 (some 16) ?_
    refine pa 4 (some 18) ?_
    refine pa 5 (some 19) ?_
    refine pa 6 (some 20) ?_
    refine ta 3 (some 17) hHeld ?_
    refine ta 7 (some 21) hHeld ?_
    refine one_ (i := 8) (N := some 22) q1k16 rfl rfl (one_of HT_.out (by kernel_rfl)) (by decide) (fun K hK => ?_)
    refine goes_ Try.func44 (by kernel_rfl) rfl #[.agg #[.int .i64 a1_0, .int .i64 a1_1, .int .i64 a1_2, .slice A1_3 l1_3.length c1_3, .slice A1_4 l1_4.length c1_4], .agg #[.int .i64 ((rd_T44 l0 x7_1).f0), .int .i64 ((rd_T44 l0 x7_1).f1.f0), .int .i64 ((rd_T44 l0 x7_1).f1.f1), .slice A289_3 ((rd_T44 l0 x7_1).f1.f2).length c289_3, .slice A289_4 ((rd_T44 l0 x7_1).f1.f3).length c289_4]] (by rfl) rfl rfl (by (try simp only [List.map_toArray, List.map_cons, List.map_nil]); first | done | rfl | (simp only [List.length_drop, List.length_take]; rfl)) ?_
    with_reducible refine (clinkerref06_ahead.calls a1_0 a1_1 a1_2 _ _ l1_3 _ _ l1_4 ((rd_T44 l0 x7_1).f0) ((rd_T44 l0 x7_1).f1.f0) ((rd_T44 l0 x7_1).f1.f1) _ _ ((rd_T44 l0 x7_1).f1.f2) _ _ ((rd_T44 l0 x7_1).f1.f3) false _ ?side1 ?side2 ?side3 ?side4 ?side5 ?side6 ?side7 ?side8 A11.out).mono ?_
    (case side1 => repeat (first | exact (Kd.V_reads' HO_285003.out).2.2 | (with_reducible refine Kd.C_alloc ?_ _) | (with_reducible refine Kd.C_drewN ?_ _) | (with_reducible refine Kd.C_drew ?_)))
    (case side2 => exact (Kd.V_reads' HO_285003.out).2.1)
    (case side3 => repeat (first | exact (Kd.V_reads' HO_285004.out).2.2 | (with_reducible refine Kd.C_alloc ?_ _) | (with_reducible refine Kd.C_drewN ?_ _) | (with_reducible refine Kd.C_drew ?_)))
    (case side4 => exact (Kd.V_reads' HO_285004.out).2.1)
    (case side5 => repeat (first | exact (by repeat (first | (with_reducible exact HR289_3.out) | (with_reducible refine Kd.C_alloc ?_ _) | (with_reducible refine Kd.C_drewN ?_ _) | (with_reducible refine Kd.C_drew ?_) | exact HR289_3.out)) | (with_reducible refine Kd.C_alloc ?_ _) | (with_reducible refine Kd.C_drewN ?_ _) | (with_reducible refine Kd.C_drew ?_)))
    (case side6 => exact HC289_3.out)
    (case side7 => repeat (first | exact (by repeat (first | (with_reducible exact HR289_4.out) | (with_reducible refine Kd.C_alloc ?_ _) | (with_reducible refine Kd.C_drewN ?_ _) | (with_reducible refine Kd.C_drew ?_) | exact HR289_4.out)) | (with_reducible refine Kd.C_alloc ?_ _) | (with_reducible refine Kd.C_drewN ?_ _) | (with_reducible refine Kd.C_drew ?_)))
    (case side8 => exact HC289_4.out)
    rintro e w22 ⟨rfl, hb⟩
    have HS5_ := (hb.cell (World.block_lt_of_cell? _ _ (hHeld.2.2.2.2.2.1))).trans (hHeld.2.2.2.2.2.1)
    have HS6_ := (hb.cell (World.block_lt_of_cell? _ _ (hHeld.2.2.2.2.2.2.1))).trans (hHeld.2.2.2.2.2.2.1)
    have HS7_ := (hb.cell (World.block_lt_of_cell? _ _ (hHeld.2.2.2.2.2.2.2.1))).trans (hHeld.2.2.2.2.2.2.2.1)
    have HS8_ := (hb.cell (World.block_lt_of_cell? _ _ (hHeld.2.2.2.2.2.2.2.2.1))).trans (hHeld.2.2.2.2.2.2.2.2.1)
    have HS9_ := (hb.cell (World.block_lt_of_cell? _ _ (hHeld.2.2.2.2.2.2.2.2.2))).trans (hHeld.2.2.2.2.2.2.2.2.2)
    refine ⟨_, rfl, ?_⟩
    replace HO_0 := Aside0.mk (Kd.V_below (mV HO_0.out) hb)
    replace HO_5 := Aside0.mk (Kd.N_below (mN HO_5.out) hb)
    replace HO_285003 := Aside0.mk (Kd.V_below (mV HO_285003.out) hb)
    replace HO_285004 := Aside0.mk (Kd.V_below (mV HO_285004.out) hb)
    replace HL289_3 := Aside0.mk (Kd.V_below (mV HL289_3.out) hb)
    replace HL289_4 := Aside0.mk (Kd.V_below (mV HL289_4.out) hb)
    replace BK284 := Aside0.mk (bb BK284.out hb)
    replace HR289_3 := Aside0.mk (Kd.C_below (by repeat (first | (with_reducible exact HR289_3.out) | (with_reducible refine Kd.C_alloc ?_ _) | (with_reducible refine Kd.C_drewN ?_ _) | (with_reducible refine Kd.C_drew ?_) | exact HR289_3.out)) hb)
    replace HR289_4 := Aside0.mk (Kd.C_below (by repeat (first | (with_reducible exact HR289_4.out) | (with_reducible refine Kd.C_alloc ?_ _) | (with_reducible refine Kd.C_drewN ?_ _) | (with_reducible refine Kd.C_drew ?_) | exact HR289_4.out)) hb)
    replace HB := Aside0.mk (bst hb)
    (try clear hb)
    (try clear hb2)
    (try clear hk)
    (try clear hi)
    refine hK.out _ _ ⟨(blk_cell BK284.out 0).trans rfl, (blk_cell BK284.out 1).trans rfl, (blk_cell BK284.out 2).trans rfl, (blk_cell BK284.out 3).trans rfl, (blk_cell BK284.out 4).trans rfl, HS5_, HS6_, HS7_, HS8_, HS9_⟩ (fun hHeld => ?_)
    clear hK K
    refine na (some 22) ?_
    refine pa 9 (some 23) ?_
    refine done_ (done_of HT_.out (by kernel_rfl)) ?_
    have p298 : 0 ≤ (x7_1 : Int) := of_decide_eq_true (by first | (with_reducible assumption) | assumption)
    have q298 : x7_1 < (l0.length : Int) := of_decide_eq_true (by first | (with_reducible assumption) | assumption)
    obtain ⟨ad298, A298_3, c298_3, A298_4, c298_4, e298, hx298_0, hx298_1, hx298_2, hx298_3, hx298_4, hl298_3, hi298_3, hl298_4, hi298_4⟩ := at_T44 (Kd.V_reads' HO_0.out).2.2 x7_1 p298 q298
    obtain rfl : ad289 = ad298 := (by injection e298)
    obtain ⟨ce298, hce298, hMe298, hcc298⟩ := Kd.V_get HO_0.out z44 x7_1 p298 (by first | exact q298 | exact of_decide_eq_true (by first | (with_reducible assumption) | assumption) | (have e_ := (Kd.V_reads' HO_0.out).1; omega))
    obtain ⟨ua298_3, uc298_3, ua298_4, uc298_4, rfl, ul298_3, ge298_3, ul298_4, ge298_4⟩ := k44_openF hMe298
    have hv298_3 := hcc298 3 _ rfl
    rw [add_field _ _ 3 (by omega)] at hv298_3
    replace hv298_3 := Option.some.inj (hv298_3.symm.trans hx298_3)
    injection hv298_3 with hva_ hvn_ hvc_
    rw [hva_] at ge298_3
    rw [hvc_] at ul298_3
    have HL298_3 := Aside0.mk (show Kd.V (Kd.int .i64) 3 _ w.heap.size _ _ ((rd_T44 l0 x7_1).f1.f2) from Kd.V_mk ul298_3 ge298_3)
    clear hva_ hvn_ hvc_ ge298_3 ul298_3
    have hv298_4 := hcc298 4 _ rfl
    rw [add_field _ _ 4 (by omega)] at hv298_4
    replace hv298_4 := Option.some.inj (hv298_4.symm.trans hx298_4)
    injection hv298_4 with hva_ hvn_ hvc_
    rw [hva_] at ge298_4
    rw [hvc_] at ul298_4
    have HL298_4 := Aside0.mk (show Kd.V (Kd.int .i64) 3 _ w.heap.size _ _ ((rd_T44 l0 x7_1).f1.f3) from Kd.V_mk ul298_4 ge298_4)
    clear hva_ hvn_ hvc_ ge298_4 ul298_4
    clear hcc298 hce298
    have HR298_3 := Aside0.mk hi298_3
    have HC298_3 := Aside0.mk hl298_3
    clear hi298_3 hl298_3
    have HR298_4 := Aside0.mk hi298_4
    have HC298_4 := Aside0.mk hl298_4
    clear hi298_4 hl298_4
    replace p298 := eq_true p298
    replace q298 := eq_true q298
    clear hHeld HS5_ HS6_ HS7_ HS8_ HS9_
    try go_wp2_with (first | ((with_reducible refine gate_builtin (b := .append) (xs := #[.tmp 28, .tmp 33]) rfl ?_); at_builtin; refine Kd.N_append k44 (w0 := w) w.heap.size rfl (.tmp 28) (.tmp 33) 39 44 (.agg #[(.int .i64 0), (.int .i64 0), (.int .i64 0), (.slice none 0 0), (.slice none 0 0)]) 72 rfl Try.underlying39 info44 rfl (by decide) (by omega) u5 x5_1 (⟨(rd_T44 l0 x7_1).f0, (⟨(rd_T44 l0 x7_1).f1.f0, (rd_T44 l0 x7_1).f1.f1, (rd_T44 l0 x7_1).f1.f2, (rd_T44 l0 x7_1).f1.f3⟩ : S42)⟩ : S44) [.int .i64 ((rd_T44 l0 x7_1).f0), .int .i64 ((rd_T44 l0 x7_1).f1.f0), .int .i64 ((rd_T44 l0 x7_1).f1.f1), .slice A298_3 ((rd_T44 l0 x7_1).f1.f2).length c298_3, .slice A298_4 ((rd_T44 l0 x7_1).f1.f3).length c298_4] (fun k_ => ((P0_ k_ ∨ P1_3_ k_ ∨ P1_4_ k_) ∨ w.heap.size ≤ k_) ∧ k_ ≠ gb284) (fun k_ => ((fun k_ => ((P0_ k_ ∨ P1_3_ k_ ∨ P1_4_ k_) ∨ w.heap.size ≤ k_) ∧ k_ ≠ gb284)) k_ ∧ some k_ ≠ (u5 : Value).ownBlock) rfl rfl ?aP (fun _ hk => hk) ?aF ?aO ?aB ?aS ?aL ?_; (case aP => exact (k44_mkF _ _ (⟨(rd_T44 l0 x7_1).f0, (⟨(rd_T44 l0 x7_1).f1.f0, (rd_T44 l0 x7_1).f1.f1, (rd_T44 l0 x7_1).f1.f2, (rd_T44 l0 x7_1).f1.f3⟩ : S42)⟩ : S44) (Kd.V_reads' (Kd.V_mono (ok' := (fun k_ => ((fun k_ => ((P0_ k_ ∨ P1_3_ k_ ∨ P1_4_ k_) ∨ w.heap.size ≤ k_) ∧ k_ ≠ gb284)) k_ ∧ some k_ ≠ (u5 : Value).ownBlock)) (HL298_3.out) (fun k_ hk => ⟨⟨hk.1, hk.2.2⟩, hk.2.1⟩))).2.1 (Kd.V_F (Kd.V_mono (ok' := (fun k_ => ((fun k_ => ((P0_ k_ ∨ P1_3_ k_ ∨ P1_4_ k_) ∨ w.heap.size ≤ k_) ∧ k_ ≠ gb284)) k_ ∧ some k_ ≠ (u5 : Value).ownBlock)) (HL298_3.out) (fun k_ hk => ⟨⟨hk.1, hk.2.2⟩, hk.2.1⟩))) (Kd.V_reads' (Kd.V_mono (ok' := (fun k_ => ((fun k_ => ((P0_ k_ ∨ P1_3_ k_ ∨ P1_4_ k_) ∨ w.heap.size ≤ k_) ∧ k_ ≠ gb284)) k_ ∧ some k_ ≠ (u5 : Value).ownBlock)) (HL298_4.out) (fun k_ hk => ⟨⟨hk.1, hk.2.2⟩, hk.2.1⟩))).2.1 (Kd.V_F (Kd.V_mono (ok' := (fun k_ => ((fun k_ => ((P0_ k_ ∨ P1_3_ k_ ∨ P1_4_ k_) ∨ w.heap.size ≤ k_) ∧ k_ ≠ gb284)) k_ ∧ some k_ ≠ (u5 : Value).ownBlock)) (HL298_4.out) (fun k_ hk => ⟨⟨hk.1, hk.2.2⟩, hk.2.1⟩))))); (case aB => exact (by repeat (first | exact HB.out | apply lA | apply lN | apply lD | refine lS ?_ GE284.out))); (case aF => exact (fun k_ hk => ⟨(.inr (Nat.le_trans bsz hk)), Kd.freshB (g := gb284) (o := .cells #[.int .i64 a1_0, .int .i64 a1_1, .int .i64 a1_2, .slice A1_3 l1_3.length c1_3, .slice A1_4 l1_4.length c1_4] 44 (0, 0)) (mB BK284.out) k_ hk⟩)); (case aO => exact (mN HO_5.out)); (case aS => exact bsz); (case aL => have := LMc20.out; omega); intro v300 w23 ho hb hg hat; rw [← Ny299.out] at ho; have n0_ := Aside0.mk (Kd.V_afterv (ok := (fun k_ => ((P0_ k_ ∨ P1_3_ k_ ∨ P1_4_ k_) ∨ w.heap.size ≤ k_) ∧ k_ ≠ gb284)) (by (with_reducible repeat (first | apply vA | apply vN | apply vD)); exact Kd.V_mono HO_0.out (fun _ hk => ⟨⟨hk.1, hk.2.2⟩, hk.2.1⟩)) hg hat); have n1_ := Aside0.mk (Kd.V_afterv (ok := (fun k_ => ((P0_ k_ ∨ P1_3_ k_ ∨ P1_4_ k_) ∨ w.heap.size ≤ k_) ∧ k_ ≠ gb284)) (by (with_reducible repeat (first | apply vA | apply vN | apply vD)); exact Kd.V_mono HO_285003.out (fun _ hk => ⟨⟨hk.1, hk.2.2⟩, hk.2.1⟩)) hg hat); have n2_ := Aside0.mk (Kd.V_afterv (ok := (fun k_ => ((P0_ k_ ∨ P1_3_ k_ ∨ P1_4_ k_) ∨ w.heap.size ≤ k_) ∧ k_ ≠ gb284)) (by (with_reducible repeat (first | apply vA | apply vN | apply vD)); exact Kd.V_mono HO_285004.out (fun _ hk => ⟨⟨hk.1, hk.2.2⟩, hk.2.1⟩)) hg hat); have n3_ := Aside0.mk (bg BK284.out hg (Kd.N_away HO_5.out (fun _ hk => hk.2))); have n4_ := Aside0.mk (Kd.V_afterv (ok := (fun k_ => ((P0_ k_ ∨ P1_3_ k_ ∨ P1_4_ k_) ∨ w.heap.size ≤ k_) ∧ k_ ≠ gb284)) (by (with_reducible repeat (first | apply vA | apply vN | apply vD)); exact Kd.V_mono HL289_3.out (fun _ hk => ⟨⟨hk.1, hk.2.2⟩, hk.2.1⟩)) hg hat); have n5_ := Aside0.mk (Kd.V_afterv (ok := (fun k_ => ((P0_ k_ ∨ P1_3_ k_ ∨ P1_4_ k_) ∨ w.heap.size ≤ k_) ∧ k_ ≠ gb284)) (by (with_reducible repeat (first | apply vA | apply vN | apply vD)); exact Kd.V_mono HL289_4.out (fun _ hk => ⟨⟨hk.1, hk.2.2⟩, hk.2.1⟩)) hg hat); have n6_ := Aside0.mk (Kd.V_afterv (ok := (fun k_ => ((P0_ k_ ∨ P1_3_ k_ ∨ P1_4_ k_) ∨ w.heap.size ≤ k_) ∧ k_ ≠ gb284)) (by (with_reducible repeat (first | apply vA | apply vN | apply vD)); exact Kd.V_mono HL298_3.out (fun _ hk => ⟨⟨hk.1, hk.2.2⟩, hk.2.1⟩)) hg hat); have n7_ := Aside0.mk (Kd.V_afterv (ok := (fun k_ => ((P0_ k_ ∨ P1_3_ k_ ∨ P1_4_ k_) ∨ w.heap.size ≤ k_) ∧ k_ ≠ gb284)) (by (with_reducible repeat (first | apply vA | apply vN | apply vD)); exact Kd.V_mono HL298_4.out (fun _ hk => ⟨⟨hk.1, hk.2.2⟩, hk.2.1⟩)) hg hat); have n8_ := Aside0.mk (hb); have n9_ := Aside0.mk (ho); clear HO_0; clear HO_285003; clear HO_285004; clear BK284; clear HL289_3; clear HL289_4; clear HL298_3; clear HL298_4; clear HB; clear HO_5; have HO_0 := n0_; have HO_285003 := n1_; have HO_285004 := n2_; have BK284 := n3_; have HL289_3 := n4_; have HL289_4 := n5_; have HL298_3 := n6_; have HL298_4 := n7_; have HB := n8_; have HO301 := n9_; clear n0_ n1_ n2_ n3_ n4_ n5_ n6_ n7_ n8_ n9_; clear ho hb hg hat))
    go_roundg k1
    case measure => have := HK1.out; omega
    case rel => exact ⟨(y299), (false), (wrap64 (x7_1 + 1)), (by first | rfl | (simp; done) | (simp [*]; done)), (by first | rfl | (simp; done) | (simp [*]; done)), H', ⟨by have := HK1.out; omega⟩, ⟨by (with_reducible repeat (first | apply vA | apply vN | apply vD)); exact Kd.V_mono HO_0.out (fun _ hk => ⟨hk.1.1, ⟨hk.2, hk.1.2⟩⟩)⟩, ⟨mN HO301.out⟩, ⟨by (with_reducible repeat (first | apply vA | apply vN | apply vD)); exact Kd.V_mono HO_285003.out (fun _ hk => ⟨hk.1.1, ⟨hk.2, hk.1.2⟩⟩)⟩, ⟨by (with_reducible repeat (first | apply vA | apply vN | apply vD)); exact Kd.V_mono HO_285004.out (fun _ hk => ⟨hk.1.1, ⟨hk.2, hk.1.2⟩⟩)⟩, ⟨mB BK284.out⟩, ⟨mH⟩⟩
   subst c12
   have H1 : (if x5_1.length < 1954687338268 then ((some (x5_1 ++ [(⟨a1_0, (⟨a1_1, a1_2, l1_3, l1_4⟩ : S42)⟩ : S44)] : List (S44))).bind fun y291 => (if y291.length < 1954687338268 then (clinkerref06_put.l0 k1 l0 (y291 ++ [(⟨(rd_T44 l0 x7_1).f0, (⟨(rd_T44 l0 x7_1).f1.f0, (rd_T44 l0 x7_1).f1.f1, (rd_T44 l0 x7_1).f1.f2, (rd_T44 l0 x7_1).f1.f3⟩ : S42)⟩ : S44)]) true (wrap64 (x7_1 + 1)) a1_0 a1_1 a1_2 l1_3 l1_4) else (none))) else (none)) = some r := by rw [if_pos rfl] at H; exact H
   clear H
   have H := H1
   clear H1
   by_cases c13 : x5_1.length < 1954687338268
   case neg =>
    rw [if_neg c13] at H
    exact absurd H (by simp)
   rw [if_pos c13] at H
   have LMc13 := Aside0.mk c13
   clear c13
   obtain ⟨y291, hy291⟩ : ∃ y_ : List (S44), y_ = (x5_1 ++ [(⟨a1_0, (⟨a1_1, a1_2, l1_3, l1_4⟩ : S42)⟩ : S44)]) := ⟨_, rfl⟩
   replace H : (if y291.length < 1954687338268 then (clinkerref06_put.l0 k1 l0 (y291 ++ [(⟨(rd_T44 l0 x7_1).f0, (⟨(rd_T44 l0 x7_1).f1.f0, (rd_T44 l0 x7_1).f1.f1, (rd_T44 l0 x7_1).f1.f2, (rd_T44 l0 x7_1).f1.f3⟩ : S42)⟩ : S44)]) true (wrap64 (x7_1 + 1)) a1_0 a1_1 a1_2 l1_3 l1_4) else (none)) = some r := by first | (rw [hy291]; with_reducible exact H) | (have H2_ := (Option.bind_some _ _).symm.trans H; rw [hy291]; with_reducible exact H2_) | (have H2_ := (Option.bind_some _ _).symm.trans H; with_reducible exact H2_) | with_reducible exact H | (rw [hy291]; exact H) | exact H
   have Ny291 := Aside0.mk hy291
   clear hy291
   by_cases c14 : y291.length < 1954687338268
   case neg =>
    rw [if_neg c14] at H
    exact absurd H (by simp)
   rw [if_pos c14] at H
   have LMc14 := Aside0.mk c14
   clear c14
   obtain ⟨y295, hy295⟩ : ∃ y_ : List (S44), y_ = (y291 ++ [(⟨(rd_T44 l0 x7_1).f0, (⟨(rd_T44 l0 x7_1).f1.f0, (rd_T44 l0 x7_1).f1.f1, (rd_T44 l0 x7_1).f1.f2, (rd_T44 l0 x7_1).f1.f3⟩ : S42)⟩ : S44)]) := ⟨_, rfl⟩
   replace H : (clinkerref06_put.l0 k1 l0 y295 true (wrap64 (x7_1 + 1)) a1_0 a1_1 a1_2 l1_3 l1_4) = some r := by first | (rw [hy295]; with_reducible exact H) | (have H2_ := (Option.bind_some _ _).symm.trans H; rw [hy295]; with_reducible exact H2_) | (have H2_ := (Option.bind_some _ _).symm.trans H; with_reducible exact H2_) | with_reducible exact H | (rw [hy295]; exact H) | exact H
   have Ny295 := Aside0.mk hy295
   clear hy295
   have H' := Aside0.mk H
   clear H
   try go_wp2
   replace HO_0 := Aside0.mk (vD HO_0.out)
   replace HO_5 := Aside0.mk (Kd.N_drew HO_5.out)
   replace HO_285003 := Aside0.mk (vD HO_285003.out)
   replace HO_285004 := Aside0.mk (vD HO_285004.out)
   replace BK284 := Aside0.mk (bD BK284.out)
   replace HB := Aside0.mk (lD HB.out)
   have p289 : 0 ≤ (x7_1 : Int) := of_decide_eq_true (by first | (with_reducible assumption) | assumption)
   have q289 : x7_1 < (l0.length : Int) := of_decide_eq_true (by first | (with_reducible assumption) | assumption)
   obtain ⟨ad289, A289_3, c289_3, A289_4, c289_4, e289, hx289_0, hx289_1, hx289_2, hx289_3, hx289_4, hl289_3, hi289_3, hl289_4, hi289_4⟩ := at_T44 (Kd.V_reads' HO_0.out).2.2 x7_1 p289 q289
   cases e289
   obtain ⟨ce289, hce289, hMe289, hcc289⟩ := Kd.V_get HO_0.out z44 x7_1 p289 (by first | exact q289 | exact of_decide_eq_true (by first | (with_reducible assumption) | assumption) | (have e_ := (Kd.V_reads' HO_0.out).1; omega))
   obtain ⟨ua289_3, uc289_3, ua289_4, uc289_4, rfl, ul289_3, ge289_3, ul289_4, ge289_4⟩ := k44_openF hMe289
   have hv289_3 := hcc289 3 _ rfl
   rw [add_field _ _ 3 (by omega)] at hv289_3
   replace hv289_3 := Option.some.inj (hv289_3.symm.trans hx289_3)
   injection hv289_3 with hva_ hvn_ hvc_
   rw [hva_] at ge289_3
   rw [hvc_] at ul289_3
   have HL289_3 := Aside0.mk (show Kd.V (Kd.int .i64) 3 _ w.heap.size _ _ ((rd_T44 l0 x7_1).f1.f2) from Kd.V_mk ul289_3 ge289_3)
   clear hva_ hvn_ hvc_ ge289_3 ul289_3
   have hv289_4 := hcc289 4 _ rfl
   rw [add_field _ _ 4 (by omega)] at hv289_4
   replace hv289_4 := Option.some.inj (hv289_4.symm.trans hx289_4)
   injection hv289_4 with hva_ hvn_ hvc_
   rw [hva_] at ge289_4
   rw [hvc_] at ul289_4
   have HL289_4 := Aside0.mk (show Kd.V (Kd.int .i64) 3 _ w.heap.size _ _ ((rd_T44 l0 x7_1).f1.f3) from Kd.V_mk ul289_4 ge289_4)
   clear hva_ hvn_ hvc_ ge289_4 ul289_4
   clear hcc289 hce289
   have HR289_3 := Aside0.mk hi289_3
   have HC289_3 := Aside0.mk hl289_3
   clear hi289_3 hl289_3
   have HR289_4 := Aside0.mk hi289_4
   have HC289_4 := Aside0.mk hl289_4
   clear hi289_4 hl289_4
   replace p289 := eq_true p289
   replace q289 := eq_true q289
   refine start_ (n := 10) (S := fun w' => w'.cell? ⟨gb284, 0, none⟩ = some (.int .i64 a1_0) ∧ w'.cell? ⟨gb284, 1, none⟩ = some (.int .i64 a1_1) ∧ w'.cell? ⟨gb284, 2, none⟩ = some (.int .i64 a1_2) ∧ w'.cell? ⟨gb284, 3, none⟩ = some (.slice A1_3 l1_3.length c1_3) ∧ w'.cell? ⟨gb284, 4, none⟩ = some (.slice A1_4 l1_4.length c1_4) ∧ w'.cell? (ad289.add ((x7_1).toNat * 5)) = some (.int .i64 ((rd_T44 l0 x7_1).f0)) ∧ w'.cell? ⟨(ad289.add ((x7_1).toNat * 5)).block, (ad289.add ((x7_1).toNat * 5)).off + 1, none⟩ = some (.int .i64 ((rd_T44 l0 x7_1).f1.f0)) ∧ w'.cell? ⟨(ad289.add ((x7_1).toNat * 5)).block, (ad289.add ((x7_1).toNat * 5)).off + 2, none⟩ = some (.int .i64 ((rd_T44 l0 x7_1).f1.f1)) ∧ w'.cell? ⟨(ad289.add ((x7_1).toNat * 5)).block, (ad289.add ((x7_1).toNat * 5)).off + 3, none⟩ = some (.slice A289_3 ((rd_T44 l0 x7_1).f1.f2).length c289_3) ∧ w'.cell? ⟨(ad289.add ((x7_1).toNat * 5)).block, (ad289.add ((x7_1).toNat * 5)).off + 4, none⟩ = some (.slice A289_4 ((rd_T44 l0 x7_1).f1.f3).length c289_4)) (ds := []) q0k16 (by kernel_rfl) rfl rfl ⟨(blk_cell BK284.out 0).trans rfl, (blk_cell BK284.out 1).trans rfl, (blk_cell BK284.out 2).trans rfl, (blk_cell BK284.out 3).trans rfl, (blk_cell BK284.out 4).trans rfl, hx289_0, hx289_1, hx289_2, hx289_3, hx289_4⟩ (fun hHeld => ?_); refine with_tabW clinkerref06_put.tab6 clinkerref06_put.bits6 (fun HT_ HW_ => ?_)
   generalize wr.drew = w15 at HO_0 HO_5 HO_285003 HO_285004 BK284 HB HL289_3 HL289_4 HR289_3 HR289_4 hx289_0 hx289_1 hx289_2 hx289_3 hx289_4 hHeld ⊢
   refine pa 0 (some 14) ?_
   refine pa 1 (some 15) ?_
   refine pa 2 (some 16) ?_
   refine pa 4 (some 18) ?_
   refine pa 5 (some 19) ?_
   refine pa 6 (some 20) ?_
   refine ta 3 (some 17) hHeld ?_
   refine ta 7 (some 21) hHeld ?_
   refine one_ (i := 8) (N := some 22) q1k16 rfl rfl (one_of HT_.out (by kernel_rfl)) (by decide) (fun K hK => ?_)
   refine goes_ Try.func44 (by kernel_rfl) rfl #[.agg #[.int .i64 a1_0, .int .i64 a1_1, .int .i64 a1_2, .slice A1_3 l1_3.length c1_3, .slice A1_4 l1_4.length c1_4], .agg #[.int .i64 ((rd_T44 l0 x7_1).f0), .int .i64 ((rd_T44 l0 x7_1).f1.f0), .int .i64 ((rd_T44 l0 x7_1).f1.f1), .slice A289_3 ((rd_T44 l0 x7_1).f1.f2).length c289_3, .slice A289_4 ((rd_T44 l0 x7_1).f1.f3).length c289_4]] (by rfl) rfl rfl (by (try simp only [List.map_toArray, List.map_cons, List.map_nil]); first | done | rfl | (simp only [List.length_drop, List.length_take]; rfl)) ?_
   with_reducible refine (clinkerref06_ahead.calls a1_0 a1_1 a1_2 _ _ l1_3 _ _ l1_4 ((rd_T44 l0 x7_1).f0) ((rd_T44 l0 x7_1).f1.f0) ((rd_T44 l0 x7_1).f1.f1) _ _ ((rd_T44 l0 x7_1).f1.f2) _ _ ((rd_T44 l0 x7_1).f1.f3) true _ ?side1 ?side2 ?side3 ?side4 ?side5 ?side6 ?side7 ?side8 A11.out).mono ?_
   (case side1 => repeat (first | exact (Kd.V_reads' HO_285003.out).2.2 | (with_reducible refine Kd.C_alloc ?_ _) | (with_reducible refine Kd.C_drewN ?_ _) | (with_reducible refine Kd.C_drew ?_)))
   (case side2 => exact (Kd.V_reads' HO_285003.out).2.1)
   (case side3 => repeat (first | exact (Kd.V_reads' HO_285004.out).2.2 | (with_reducible refine Kd.C_alloc ?_ _) | (with_reducible refine Kd.C_drewN ?_ _) | (with_reducible refine Kd.C_drew ?_)))
   (case side4 => exact (Kd.V_reads' HO_285004.out).2.1)
   (case side5 => repeat (first | exact (by repeat (first | (with_reducible exact HR289_3.out) | (with_reducible refine Kd.C_alloc ?_ _) | (with_reducible refine Kd.C_drewN ?_ _) | (with_reducible refine Kd.C_drew ?_) | exact HR289_3.out)) | (with_reducible refine Kd.C_alloc ?_ _) | (with_reducible refine Kd.C_drewN ?_ _) | (with_reducible refine Kd.C_drew ?_)))
   (case side6 => exact HC289_3.out)
   (case side7 => repeat (first | exact (by repeat (first | (with_reducible exact HR289_4.out) | (with_reducible refine Kd.C_alloc ?_ _) | (with_reducible refine Kd.C_drewN ?_ _) | (with_reducible refine Kd.C_drew ?_) | exact HR289_4.out)) | (with_reducible refine Kd.C_alloc ?_ _) | (with_reducible refine Kd.C_drewN ?_ _) | (with_reducible refine Kd.C_drew ?_)))
   (case side8 => exact HC289_4.out)
   rintro e w16 ⟨rfl, hb⟩
   have HS5_ := (hb.cell (World.block_lt_of_cell? _ _ (hHeld.2.2.2.2.2.1))).trans (hHeld.2.2.2.2.2.1)
   have HS6_ := (hb.cell (World.block_lt_of_cell? _ _ (hHeld.2.2.2.2.2.2.1))).trans (hHeld.2.2.2.2.2.2.1)
   have HS7_ := (hb.cell (World.block_lt_of_cell? _ _ (hHeld.2.2.2.2.2.2.2.1))).trans (hHeld.2.2.2.2.2.2.2.1)
   have HS8_ := (hb.cell (World.block_lt_of_cell? _ _ (hHeld.2.2.2.2.2.2.2.2.1))).trans (hHeld.2.2.2.2.2.2.2.2.1)
   have HS9_ := (hb.cell (World.block_lt_of_cell? _ _ (hHeld.2.2.2.2.2.2.2.2.2))).trans (hHeld.2.2.2.2.2.2.2.2.2)
   refine ⟨_, rfl, ?_⟩
   replace HO_0 := Aside0.mk (Kd.V_below (mV HO_0.out) hb)
   replace HO_5 := Aside0.mk (Kd.N_below (mN HO_5.out) hb)
   replace HO_285003 := Aside0.mk (Kd.V_below (mV HO_285003.out) hb)
   replace HO_285004 := Aside0.mk (Kd.V_below (mV HO_285004.out) hb)
   replace HL289_3 := Aside0.mk (Kd.V_below (mV HL289_3.out) hb)
   replace HL289_4 := Aside0.mk (Kd.V_below (mV HL289_4.out) hb)
   replace BK284 := Aside0.mk (bb BK284.out hb)
   replace HR289_3 := Aside0.mk (Kd.C_below (by repeat (first | (with_reducible exact HR289_3.out) | (with_reducible refine Kd.C_alloc ?_ _) | (with_reducible refine Kd.C_drewN ?_ _) | (with_reducible refine Kd.C_drew ?_) | exact HR289_3.out)) hb)
   replace HR289_4 := Aside0.mk (Kd.C_below (by repeat (first | (with_reducible exact HR289_4.out) | (with_reducible refine Kd.C_alloc ?_ _) | (with_reducible refine Kd.C_drewN ?_ _) | (with_reducible refine Kd.C_drew ?_) | exact HR289_4.out)) hb)
   replace HB := Aside0.mk (bst hb)
   (try clear hb)
   (try clear hb2)
   (try clear hk)
   (try clear hi)
   refine hK.out _ _ ⟨(blk_cell BK284.out 0).trans rfl, (blk_cell BK284.out 1).trans rfl, (blk_cell BK284.out 2).trans rfl, (blk_cell BK284.out 3).trans rfl, (blk_cell BK284.out 4).trans rfl, HS5_, HS6_, HS7_, HS8_, HS9_⟩ (fun hHeld => ?_)
   clear hK K
   refine na (some 22) ?_
   refine pa 9 (some 23) ?_
   refine done_ (done_of HT_.out (by kernel_rfl)) ?_
   obtain ⟨hcz17_0, hcz17_1, hcz17_2, hcz17_3, hcz17_4, hfz17_0, hfz17_1, hfz17_2, hfz17_3, hfz17_4⟩ := kc5 BK284.out
   try go_wp2_with (first | ((with_reducible refine gate_builtin (b := .append) (xs := #[.tmp 24, .tmp 26]) rfl ?_); at_builtin; refine Kd.N_append k44 (w0 := w) w.heap.size rfl (.tmp 24) (.tmp 26) 39 44 (.agg #[(.int .i64 0), (.int .i64 0), (.int .i64 0), (.slice none 0 0), (.slice none 0 0)]) 72 rfl Try.underlying39 info44 rfl (by decide) (by omega) u5 x5_1 (⟨a1_0, (⟨a1_1, a1_2, l1_3, l1_4⟩ : S42)⟩ : S44) [.int .i64 a1_0, .int .i64 a1_1, .int .i64 a1_2, .slice A1_3 l1_3.length c1_3, .slice A1_4 l1_4.length c1_4] (fun k_ => ((P0_ k_ ∨ P1_3_ k_ ∨ P1_4_ k_) ∨ w.heap.size ≤ k_) ∧ k_ ≠ gb284) (fun k_ => ((fun k_ => ((P0_ k_ ∨ P1_3_ k_ ∨ P1_4_ k_) ∨ w.heap.size ≤ k_) ∧ k_ ≠ gb284)) k_ ∧ some k_ ≠ (u5 : Value).ownBlock) rfl rfl ?aP (fun _ hk => hk) ?aF ?aO ?aB ?aS ?aL ?_; (case aP => exact (k44_mkF _ _ (⟨a1_0, (⟨a1_1, a1_2, l1_3, l1_4⟩ : S42)⟩ : S44) (Kd.V_reads' (Kd.V_mono (ok' := (fun k_ => ((fun k_ => ((P0_ k_ ∨ P1_3_ k_ ∨ P1_4_ k_) ∨ w.heap.size ≤ k_) ∧ k_ ≠ gb284)) k_ ∧ some k_ ≠ (u5 : Value).ownBlock)) (HO_285003.out) (fun k_ hk => ⟨⟨hk.1, hk.2.2⟩, hk.2.1⟩))).2.1 (Kd.V_F (Kd.V_mono (ok' := (fun k_ => ((fun k_ => ((P0_ k_ ∨ P1_3_ k_ ∨ P1_4_ k_) ∨ w.heap.size ≤ k_) ∧ k_ ≠ gb284)) k_ ∧ some k_ ≠ (u5 : Value).ownBlock)) (HO_285003.out) (fun k_ hk => ⟨⟨hk.1, hk.2.2⟩, hk.2.1⟩))) (Kd.V_reads' (Kd.V_mono (ok' := (fun k_ => ((fun k_ => ((P0_ k_ ∨ P1_3_ k_ ∨ P1_4_ k_) ∨ w.heap.size ≤ k_) ∧ k_ ≠ gb284)) k_ ∧ some k_ ≠ (u5 : Value).ownBlock)) (HO_285004.out) (fun k_ hk => ⟨⟨hk.1, hk.2.2⟩, hk.2.1⟩))).2.1 (Kd.V_F (Kd.V_mono (ok' := (fun k_ => ((fun k_ => ((P0_ k_ ∨ P1_3_ k_ ∨ P1_4_ k_) ∨ w.heap.size ≤ k_) ∧ k_ ≠ gb284)) k_ ∧ some k_ ≠ (u5 : Value).ownBlock)) (HO_285004.out) (fun k_ hk => ⟨⟨hk.1, hk.2.2⟩, hk.2.1⟩))))); (case aB => exact (by repeat (first | exact HB.out | apply lA | apply lN | apply lD | refine lS ?_ GE284.out))); (case aF => exact (fun k_ hk => ⟨(.inr (Nat.le_trans bsz hk)), Kd.freshB (g := gb284) (o := .cells #[.int .i64 a1_0, .int .i64 a1_1, .int .i64 a1_2, .slice A1_3 l1_3.length c1_3, .slice A1_4 l1_4.length c1_4] 44 (0, 0)) (mB BK284.out) k_ hk⟩)); (case aO => exact (mN HO_5.out)); (case aS => exact bsz); (case aL => have := LMc13.out; omega); intro v292 w18 ho hb hg hat; rw [← Ny291.out] at ho; have n0_ := Aside0.mk (Kd.V_afterv (ok := (fun k_ => ((P0_ k_ ∨ P1_3_ k_ ∨ P1_4_ k_) ∨ w.heap.size ≤ k_) ∧ k_ ≠ gb284)) (by (with_reducible repeat (first | apply vA | apply vN | apply vD)); exact Kd.V_mono HO_0.out (fun _ hk => ⟨⟨hk.1, hk.2.2⟩, hk.2.1⟩)) hg hat); have n1_ := Aside0.mk (Kd.V_afterv (ok := (fun k_ => ((P0_ k_ ∨ P1_3_ k_ ∨ P1_4_ k_) ∨ w.heap.size ≤ k_) ∧ k_ ≠ gb284)) (by (with_reducible repeat (first | apply vA | apply vN | apply vD)); exact Kd.V_mono HO_285003.out (fun _ hk => ⟨⟨hk.1, hk.2.2⟩, hk.2.1⟩)) hg hat); have n2_ := Aside0.mk (Kd.V_afterv (ok := (fun k_ => ((P0_ k_ ∨ P1_3_ k_ ∨ P1_4_ k_) ∨ w.heap.size ≤ k_) ∧ k_ ≠ gb284)) (by (with_reducible repeat (first | apply vA | apply vN | apply vD)); exact Kd.V_mono HO_285004.out (fun _ hk => ⟨⟨hk.1, hk.2.2⟩, hk.2.1⟩)) hg hat); have n3_ := Aside0.mk (bg BK284.out hg (Kd.N_away HO_5.out (fun _ hk => hk.2))); have n4_ := Aside0.mk (Kd.V_afterv (ok := (fun k_ => ((P0_ k_ ∨ P1_3_ k_ ∨ P1_4_ k_) ∨ w.heap.size ≤ k_) ∧ k_ ≠ gb284)) (by (with_reducible repeat (first | apply vA | apply vN | apply vD)); exact Kd.V_mono HL289_3.out (fun _ hk => ⟨⟨hk.1, hk.2.2⟩, hk.2.1⟩)) hg hat); have n5_ := Aside0.mk (Kd.V_afterv (ok := (fun k_ => ((P0_ k_ ∨ P1_3_ k_ ∨ P1_4_ k_) ∨ w.heap.size ≤ k_) ∧ k_ ≠ gb284)) (by (with_reducible repeat (first | apply vA | apply vN | apply vD)); exact Kd.V_mono HL289_4.out (fun _ hk => ⟨⟨hk.1, hk.2.2⟩, hk.2.1⟩)) hg hat); have n6_ := Aside0.mk (hb); have n7_ := Aside0.mk (ho); clear HO_0; clear HO_285003; clear HO_285004; clear BK284; clear HL289_3; clear HL289_4; clear HB; clear HO_5; have HO_0 := n0_; have HO_285003 := n1_; have HO_285004 := n2_; have BK284 := n3_; have HL289_3 := n4_; have HL289_4 := n5_; have HB := n6_; have HO293 := n7_; clear n0_ n1_ n2_ n3_ n4_ n5_ n6_ n7_; clear ho hb hg hat; have p294 : 0 ≤ (x7_1 : Int) := of_decide_eq_true (by first | (with_reducible assumption) | assumption); have q294 : x7_1 < (l0.length : Int) := of_decide_eq_true (by first | (with_reducible assumption) | assumption); obtain ⟨ad294, A294_3, c294_3, A294_4, c294_4, e294, hx294_0, hx294_1, hx294_2, hx294_3, hx294_4, hl294_3, hi294_3, hl294_4, hi294_4⟩ := at_T44 (Kd.V_reads' HO_0.out).2.2 x7_1 p294 q294; obtain rfl : ad289 = ad294 := (by injection e294); obtain ⟨ce294, hce294, hMe294, hcc294⟩ := Kd.V_get HO_0.out z44 x7_1 p294 (by first | exact q294 | exact of_decide_eq_true (by first | (with_reducible assumption) | assumption) | (have e_ := (Kd.V_reads' HO_0.out).1; omega)); obtain ⟨ua294_3, uc294_3, ua294_4, uc294_4, rfl, ul294_3, ge294_3, ul294_4, ge294_4⟩ := k44_openF hMe294; have hv294_3 := hcc294 3 _ rfl; rw [add_field _ _ 3 (by omega)] at hv294_3; replace hv294_3 := Option.some.inj (hv294_3.symm.trans hx294_3); injection hv294_3 with hva_ hvn_ hvc_; rw [hva_] at ge294_3; rw [hvc_] at ul294_3; have HL294_3 := Aside0.mk (show Kd.V (Kd.int .i64) 3 _ w.heap.size _ _ ((rd_T44 l0 x7_1).f1.f2) from Kd.V_mk ul294_3 ge294_3); clear hva_ hvn_ hvc_ ge294_3 ul294_3; have hv294_4 := hcc294 4 _ rfl; rw [add_field _ _ 4 (by omega)] at hv294_4; replace hv294_4 := Option.some.inj (hv294_4.symm.trans hx294_4); injection hv294_4 with hva_ hvn_ hvc_; rw [hva_] at ge294_4; rw [hvc_] at ul294_4; have HL294_4 := Aside0.mk (show Kd.V (Kd.int .i64) 3 _ w.heap.size _ _ ((rd_T44 l0 x7_1).f1.f3) from Kd.V_mk ul294_4 ge294_4); clear hva_ hvn_ hvc_ ge294_4 ul294_4; clear hcc294 hce294; have HR294_3 := Aside0.mk hi294_3; have HC294_3 := Aside0.mk hl294_3; clear hi294_3 hl294_3; have HR294_4 := Aside0.mk hi294_4; have HC294_4 := Aside0.mk hl294_4; clear hi294_4 hl294_4; replace p294 := eq_true p294; replace q294 := eq_true q294) | ((with_reducible refine gate_builtin (b := .append) (xs := #[.tmp 28, .tmp 33]) rfl ?_); at_builtin; refine Kd.N_append k44 (w0 := w) w.heap.size rfl (.tmp 28) (.tmp 33) 39 44 (.agg #[(.int .i64 0), (.int .i64 0), (.int .i64 0), (.slice none 0 0), (.slice none 0 0)]) 72 rfl Try.underlying39 info44 rfl (by decide) (by omega) v292 y291 (⟨(rd_T44 l0 x7_1).f0, (⟨(rd_T44 l0 x7_1).f1.f0, (rd_T44 l0 x7_1).f1.f1, (rd_T44 l0 x7_1).f1.f2, (rd_T44 l0 x7_1).f1.f3⟩ : S42)⟩ : S44) [.int .i64 ((rd_T44 l0 x7_1).f0), .int .i64 ((rd_T44 l0 x7_1).f1.f0), .int .i64 ((rd_T44 l0 x7_1).f1.f1), .slice A294_3 ((rd_T44 l0 x7_1).f1.f2).length c294_3, .slice A294_4 ((rd_T44 l0 x7_1).f1.f3).length c294_4] (fun k_ => ((P0_ k_ ∨ P1_3_ k_ ∨ P1_4_ k_) ∨ w.heap.size ≤ k_) ∧ k_ ≠ gb284) (fun k_ => ((fun k_ => ((P0_ k_ ∨ P1_3_ k_ ∨ P1_4_ k_) ∨ w.heap.size ≤ k_) ∧ k_ ≠ gb284)) k_ ∧ some k_ ≠ (v292 : Value).ownBlock) rfl rfl ?aP (fun _ hk => hk) ?aF ?aO ?aB ?aS ?aL ?_; (case aP => exact (k44_mkF _ _ (⟨(rd_T44 l0 x7_1).f0, (⟨(rd_T44 l0 x7_1).f1.f0, (rd_T44 l0 x7_1).f1.f1, (rd_T44 l0 x7_1).f1.f2, (rd_T44 l0 x7_1).f1.f3⟩ : S42)⟩ : S44) (Kd.V_reads' (Kd.V_mono (ok' := (fun k_ => ((fun k_ => ((P0_ k_ ∨ P1_3_ k_ ∨ P1_4_ k_) ∨ w.heap.size ≤ k_) ∧ k_ ≠ gb284)) k_ ∧ some k_ ≠ (v292 : Value).ownBlock)) (HL294_3.out) (fun k_ hk => ⟨⟨hk.1.1, hk.1.2⟩, hk.2⟩))).2.1 (Kd.V_F (Kd.V_mono (ok' := (fun k_ => ((fun k_ => ((P0_ k_ ∨ P1_3_ k_ ∨ P1_4_ k_) ∨ w.heap.size ≤ k_) ∧ k_ ≠ gb284)) k_ ∧ some k_ ≠ (v292 : Value).ownBlock)) (HL294_3.out) (fun k_ hk => ⟨⟨hk.1.1, hk.1.2⟩, hk.2⟩))) (Kd.V_reads' (Kd.V_mono (ok' := (fun k_ => ((fun k_ => ((P0_ k_ ∨ P1_3_ k_ ∨ P1_4_ k_) ∨ w.heap.size ≤ k_) ∧ k_ ≠ gb284)) k_ ∧ some k_ ≠ (v292 : Value).ownBlock)) (HL294_4.out) (fun k_ hk => ⟨⟨hk.1.1, hk.1.2⟩, hk.2⟩))).2.1 (Kd.V_F (Kd.V_mono (ok' := (fun k_ => ((fun k_ => ((P0_ k_ ∨ P1_3_ k_ ∨ P1_4_ k_) ∨ w.heap.size ≤ k_) ∧ k_ ≠ gb284)) k_ ∧ some k_ ≠ (v292 : Value).ownBlock)) (HL294_4.out) (fun k_ hk => ⟨⟨hk.1.1, hk.1.2⟩, hk.2⟩))))); (case aB => exact (by repeat (first | exact HB.out | apply lA | apply lN | apply lD | refine lS ?_ GE284.out))); (case aF => exact (fun k_ hk => ⟨(.inr (Nat.le_trans bsz hk)), Kd.freshB (g := gb284) (o := .cells #[.int .i64 a1_0, .int .i64 a1_1, .int .i64 a1_2, .slice A1_3 l1_3.length c1_3, .slice A1_4 l1_4.length c1_4] 44 (0, 0)) (mB BK284.out) k_ hk⟩)); (case aO => exact (mN HO293.out)); (case aS => exact bsz); (case aL => have := LMc14.out; omega); intro v296 w19 ho hb hg hat; rw [← Ny295.out] at ho; have n0_ := Aside0.mk (Kd.V_afterv (ok := (fun k_ => ((P0_ k_ ∨ P1_3_ k_ ∨ P1_4_ k_) ∨ w.heap.size ≤ k_) ∧ k_ ≠ gb284)) (mV HO_0.out) hg hat); have n1_ := Aside0.mk (Kd.V_afterv (ok := (fun k_ => ((P0_ k_ ∨ P1_3_ k_ ∨ P1_4_ k_) ∨ w.heap.size ≤ k_) ∧ k_ ≠ gb284)) (mV HO_285003.out) hg hat); have n2_ := Aside0.mk (Kd.V_afterv (ok := (fun k_ => ((P0_ k_ ∨ P1_3_ k_ ∨ P1_4_ k_) ∨ w.heap.size ≤ k_) ∧ k_ ≠ gb284)) (mV HO_285004.out) hg hat); have n3_ := Aside0.mk (bg BK284.out hg (Kd.N_away HO293.out (fun _ hk => hk.2))); have n4_ := Aside0.mk (Kd.V_afterv (ok := (fun k_ => ((P0_ k_ ∨ P1_3_ k_ ∨ P1_4_ k_) ∨ w.heap.size ≤ k_) ∧ k_ ≠ gb284)) (mV HL289_3.out) hg hat); have n5_ := Aside0.mk (Kd.V_afterv (ok := (fun k_ => ((P0_ k_ ∨ P1_3_ k_ ∨ P1_4_ k_) ∨ w.heap.size ≤ k_) ∧ k_ ≠ gb284)) (mV HL289_4.out) hg hat); have n6_ := Aside0.mk (Kd.V_afterv (ok := (fun k_ => ((P0_ k_ ∨ P1_3_ k_ ∨ P1_4_ k_) ∨ w.heap.size ≤ k_) ∧ k_ ≠ gb284)) (mV HL294_3.out) hg hat); have n7_ := Aside0.mk (Kd.V_afterv (ok := (fun k_ => ((P0_ k_ ∨ P1_3_ k_ ∨ P1_4_ k_) ∨ w.heap.size ≤ k_) ∧ k_ ≠ gb284)) (mV HL294_4.out) hg hat); have n8_ := Aside0.mk (hb); have n9_ := Aside0.mk (ho); clear HO_0; clear HO_285003; clear HO_285004; clear BK284; clear HL289_3; clear HL289_4; clear HL294_3; clear HL294_4; clear HB; clear HO293; have HO_0 := n0_; have HO_285003 := n1_; have HO_285004 := n2_; have BK284 := n3_; have HL289_3 := n4_; have HL289_4 := n5_; have HL294_3 := n6_; have HL294_4 := n7_; have HB := n8_; have HO297 := n9_; clear n0_ n1_ n2_ n3_ n4_ n5_ n6_ n7_ n8_ n9_; clear ho hb hg hat))
   go_roundg k1
   case measure => have := HK1.out; omega
   case rel => exact ⟨(y295), (true), (wrap64 (x7_1 + 1)), (by first | rfl | (simp; done) | (simp [*]; done)), (by first | rfl | (simp; done) | (simp [*]; done)), H', ⟨by have := HK1.out; omega⟩, ⟨by (with_reducible repeat (first | apply vA | apply vN | apply vD)); exact Kd.V_mono HO_0.out (fun _ hk => ⟨hk.1.1, ⟨hk.2, hk.1.2⟩⟩)⟩, ⟨mN HO297.out⟩, ⟨by (with_reducible repeat (first | apply vA | apply vN | apply vD)); exact Kd.V_mono HO_285003.out (fun _ hk => ⟨hk.1.1, ⟨hk.2, hk.1.2⟩⟩)⟩, ⟨by (with_reducible repeat (first | apply vA | apply vN | apply vD)); exact Kd.V_mono HO_285004.out (fun _ hk => ⟨hk.1.1, ⟨hk.2, hk.1.2⟩⟩)⟩, ⟨mB BK284.out⟩, ⟨mH⟩⟩

end Go.Proofs.Ytfolonajajideaa.PAll
