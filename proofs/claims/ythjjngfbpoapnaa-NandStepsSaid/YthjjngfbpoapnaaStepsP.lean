/- Written by a program of this session (wip/xp) out of the translation: functions in plain Lean, and proofs that the calls come to these. -/
import Derived.Test.YthjjngfbpoapnaaPAllx0
import Derived.Test.YthjjngfbpoapnaaPAllx1
import Derived.Test.YthjjngfbpoapnaaPAllx3
import Derived.Test.YthjjngfbpoapnaaPAllx8
import Derived.Test.YthjjngfbpoapnaaPAllx15
import Derived.Test.YthjjngfbpoapnaaSameP
namespace Go.Proofs.Ythjjngfbpoapnaa.PAll
open Go.RowKit Go.Proofs.YthjjngfbpoapnaaW.PrintWords Go.Proofs.YthjjngfbpoapnaaW.PrintLast Go.Proofs.YthjjngfbpoapnaaW.PrintMore
attribute [local go_sem] max2_int min2_int max_two min_two max_three min_three max_four min_four   -- for this text's walks alone
set_option linter.unusedVariables false
set_option linter.unusedSimpArgs false

/-! ### clinkerlaw05_NandSteps: function 6 -/
mutual
def clinkerlaw05_NandSteps.l0 : Nat → List (S37) → Int → List (S44) → Bool → Bool → Int → Option (Bool)
 | 0, _, _, _, _, _, _ => none
 | k + 1, x0, x9, x532000, x532001, x532002, x532003 => if x9 < (x0.length : Int) then (clinkerlaw05_NandSteps.j1 k x0 x9 (decide (x9 < 12)) x532000 x532001 x532002 x532003) else (clinkerlaw05_NandSteps.j1 k x0 x9 false x532000 x532001 x532002 x532003)
def clinkerlaw05_NandSteps.j1 : Nat → List (S37) → Int → Bool → List (S44) → Bool → Bool → Int → Option (Bool)
 | 0, _, _, _, _, _, _, _ => none
 | k + 1, x0, x9, x32, x532000, x532001, x532002, x532003 => if x32 = true then (if 0 ≤ x9 then (if x9 < (x0.length : Int) then ((clinkerlaw05_done.f k x532000 x532001 x532002 x532003 ((rd_T37 x0 x9).f0) ((rd_T37 x0 x9).f1) ((rd_T37 x0 x9).f2) ((rd_T37 x0 x9).f3) ((rd_T37 x0 x9).f4) ((rd_T37 x0 x9).f5)).bind fun bt534 => ((clinkerlaw05_Fate.f ((rd_T37 x0 x9).f0) ((rd_T37 x0 x9).f1) ((rd_T37 x0 x9).f2) ((rd_T37 x0 x9).f3) ((rd_T37 x0 x9).f4) ((rd_T37 x0 x9).f5)).bind fun bt546 => ((clinkerlaw05_same.f x532000 x532001 x532002 x532003 bt534.2.2.2.2.1 bt534.2.2.2.2.2 false ((rd_T37 x0 x9).f4) ((rd_T37 x0 x9).f5) bt546.1 bt546.2.1 bt546.2.2.1 bt546.2.2.2).bind fun t550 => (if t550 = true then (clinkerlaw05_NandSteps.l0 k x0 (wrap64 (x9 + 1)) bt534.1 bt534.2.1 bt534.2.2.1 bt534.2.2.2.1) else (some false))))) else (none)) else (none)) else ((clinkerlaw05_awake.f).bind fun t532 => (some t532))
end
def clinkerlaw05_NandSteps.f (k : Nat) (l0 : List (S37)) (a1 : Int) (a2 : Int) : Option (Bool) := (clinkerref05_New.f (wrap64 (1 + (Int.tmod (wrap64 (a1)) 4))) (wrap64 (1 + (Int.tmod (wrap64 (a2)) 5))) ([] : List Int)).bind fun bt524 => (clinkerlaw05_NandSteps.l0 k l0 0 bt524.1 bt524.2.1 bt524.2.2.1 bt524.2.2.2.1)
theorem clinkerlaw05_NandSteps.mono_l : ∀ k, (∀ y0 y1 y2 y3 y4 y5, LeO (clinkerlaw05_NandSteps.l0 k y0 y1 y2 y3 y4 y5) (clinkerlaw05_NandSteps.l0 (k + 1) y0 y1 y2 y3 y4 y5)) ∧ (∀ y0 y1 y2 y3 y4 y5 y6, LeO (clinkerlaw05_NandSteps.j1 k y0 y1 y2 y3 y4 y5 y6) (clinkerlaw05_NandSteps.j1 (k + 1) y0 y1 y2 y3 y4 y5 y6))
 | 0 => ⟨fun _ _ _ _ _ _ r h => by simp [clinkerlaw05_NandSteps.l0] at h, fun _ _ _ _ _ _ _ r h => by simp [clinkerlaw05_NandSteps.j1] at h⟩
 | k + 1 => by
  obtain ⟨ih0, ih1⟩ := clinkerlaw05_NandSteps.mono_l k
  refine ⟨?_, ?_⟩
  ·
   intro y0 y1 y2 y3 y4 y5
   unfold clinkerlaw05_NandSteps.l0
   repeat' first
   | (with_reducible exact ih0 _ _ _ _ _ _)
   | (with_reducible exact ih1 _ _ _ _ _ _ _)
   | (with_reducible exact clinkerlaw05_done.mono _ _ _ _ _ _ _ _ _ _ _)
   | (with_reducible exact LeO.refl _)
   | (with_reducible exact LeO.none _)
   | (with_reducible refine LeO.ite ?_ ?_)
   | (with_reducible refine LeO.bind ?_ (fun _ => ?_))
   | exact ih0 _ _ _ _ _ _
   | exact ih1 _ _ _ _ _ _ _
   | exact clinkerlaw05_done.mono _ _ _ _ _ _ _ _ _ _ _
   | exact LeO.none _
   | refine LeO.ite ?_ ?_
   | refine LeO.bind ?_ (fun _ => ?_)
  ·
   intro y0 y1 y2 y3 y4 y5 y6
   unfold clinkerlaw05_NandSteps.j1
   repeat' first
   | (with_reducible exact ih0 _ _ _ _ _ _)
   | (with_reducible exact ih1 _ _ _ _ _ _ _)
   | (with_reducible exact clinkerlaw05_done.mono _ _ _ _ _ _ _ _ _ _ _)
   | (with_reducible exact LeO.refl _)
   | (with_reducible exact LeO.none _)
   | (with_reducible refine LeO.ite ?_ ?_)
   | (with_reducible refine LeO.bind ?_ (fun _ => ?_))
   | exact ih0 _ _ _ _ _ _
   | exact ih1 _ _ _ _ _ _ _
   | exact clinkerlaw05_done.mono _ _ _ _ _ _ _ _ _ _ _
   | exact LeO.none _
   | refine LeO.ite ?_ ?_
   | refine LeO.bind ?_ (fun _ => ?_)
theorem clinkerlaw05_NandSteps.mono : ∀ a0 a1 a2 k, LeO (clinkerlaw05_NandSteps.f k a0 a1 a2) (clinkerlaw05_NandSteps.f (k + 1) a0 a1 a2) := by
 intro a0 a1 a2 k
 obtain ⟨ih0, ih1⟩ := clinkerlaw05_NandSteps.mono_l k
 unfold clinkerlaw05_NandSteps.f
 repeat' first
   | (with_reducible exact ih0 _ _ _ _ _ _)
   | (with_reducible exact ih1 _ _ _ _ _ _ _)
   | (with_reducible exact clinkerlaw05_done.mono _ _ _ _ _ _ _ _ _ _ _)
   | (with_reducible exact LeO.refl _)
   | (with_reducible exact LeO.none _)
   | (with_reducible refine LeO.ite ?_ ?_)
   | (with_reducible refine LeO.bind ?_ (fun _ => ?_))
   | exact ih0 _ _ _ _ _ _
   | exact ih1 _ _ _ _ _ _ _
   | exact clinkerlaw05_done.mono _ _ _ _ _ _ _ _ _ _ _
   | exact LeO.none _
   | refine LeO.ite ?_ ?_
   | refine LeO.bind ?_ (fun _ => ?_)
def clinkerlaw05_NandSteps.T5 : Bool × List (List Nat × List Nat) := (true, [([], []), ([], []), ([], []), ([1, 2], [1, 2]), ([3], [3]), ([0, 4], [0, 4]), ([5], [5]), ([6], [6]), ([6], [6]), ([6], [6]), ([], []), ([10, 7, 5, 0, 1, 2, 3, 4, 5, 6, 7, 10], [7, 10]), ([8, 11, 0, 1, 2, 3, 4, 5, 6, 7, 8, 10, 11], [8]), ([9, 12, 0, 1, 2, 3, 4, 5, 6, 7, 8, 9, 10, 11, 12], [9])])
def clinkerlaw05_NandSteps.B5 : List Nat := [0, 0, 0, 6, 14, 31, 63, 127, 127, 127, 0, 1279, 3583, 8191]
theorem clinkerlaw05_NandSteps.tab5 : rtab .any (opsOf Try.f6 5) = clinkerlaw05_NandSteps.T5 := by kernel_rfl
theorem clinkerlaw05_NandSteps.bits5 : waitsOk clinkerlaw05_NandSteps.T5.2 clinkerlaw05_NandSteps.B5 = true := by kernel_rfl
def clinkerlaw05_NandSteps.T6 : Bool × List (List Nat × List Nat) := (true, [([], []), ([], []), ([], []), ([], []), ([], []), ([3, 4], [3, 4]), ([5], [5]), ([6], [6]), ([], []), ([], []), ([8, 9], [8, 9]), ([10], [10]), ([11], [11]), ([7, 12], [7, 12]), ([], []), ([], []), ([14, 15], [14, 15]), ([16], [16]), ([17], [17]), ([0, 1, 2, 13, 18, 18], [0, 1, 2, 13, 18]), ([19], [19])])
def clinkerlaw05_NandSteps.B6 : List Nat := [0, 0, 0, 0, 0, 24, 56, 120, 0, 0, 768, 1792, 3840, 8184, 0, 0, 49152, 114688, 245760, 524287, 1048575]
theorem clinkerlaw05_NandSteps.tab6 : rtab .any (opsOf Try.f6 6) = clinkerlaw05_NandSteps.T6 := by kernel_rfl
theorem clinkerlaw05_NandSteps.bits6 : waitsOk clinkerlaw05_NandSteps.T6.2 clinkerlaw05_NandSteps.B6 = true := by kernel_rfl
set_option maxHeartbeats 8000000 in
set_option maxRecDepth 100000 in
theorem clinkerlaw05_NandSteps.calls (k : Nat) (A0 : Option Addr) (c0 : Nat) (l0 : List (S37)) (a1 : Int) (a2 : Int) (r : Bool) (hrt : Aside0 (r = true)) (w : World) (hr0 : Kd.C k37 w A0 l0.length l0) (hc0 : l0.length ≤ c0) (h : clinkerlaw05_NandSteps.f k l0 a1 a2 = some r) :
  Calls Try.prog 6 #[.slice A0 l0.length c0, .int .u8 a1, .int .u8 a2] w fun e w' => e = .returned (.bool r) ∧ Below w.heap.size w w' := by
 have hu27 := Try.underlying27
 have hu37 := Try.underlying37
 have hu46 := Try.underlying46
 have HR0 := Aside0.mk hr0
 have HC0 := Aside0.mk hc0
 clear hr0 hc0
 have HB := Aside0.mk (Below.refl w.heap.size w)
 have H : ((clinkerref05_New.f (wrap64 (1 + (Int.tmod (wrap64 (a1)) 4))) (wrap64 (1 + (Int.tmod (wrap64 (a2)) 5))) ([] : List Int)).bind fun bt524 => (clinkerlaw05_NandSteps.l0 k l0 0 bt524.1 bt524.2.1 bt524.2.2.1 bt524.2.2.2.1)) = some r := h
 clear h
 replace H := Option.bind_eq_some_iff.mp H
 obtain ⟨⟨t524, t527, t528, t529, t530⟩, A40, H⟩ := H
 replace H : (clinkerlaw05_NandSteps.l0 k l0 0 t524 t527 t528 t529) = some r := H
 have A4 := Aside0.mk A40
 clear A40
 have H' := Aside0.mk H
 clear H
 go_enter Try.func6, Try.ntmps6
 go_wp2_with (first | ((with_reducible refine gate_callee (f := 13) rfl ?_); refine goesL_ (some 22) rfl rfl Try.func13 (by kernel_rfl) rfl #[.int .i64 (wrap64 (1 + (Int.tmod (wrap64 (a1)) 4))), .int .i64 (wrap64 (1 + (Int.tmod (wrap64 (a2)) 5))), .slice none 0 0] rfl (by (try simp only [List.map_toArray, List.map_cons, List.map_nil]); first | done | rfl | (simp only [List.length_drop, List.length_take]; rfl)) ?_; (refine (clinkerref05_New.calls (wrap64 (1 + (Int.tmod (wrap64 (a1)) 4))) (wrap64 (1 + (Int.tmod (wrap64 (a2)) 5))) _ _ ([] : List Int) t524 t527 t528 t529 t530 _ ?side1 ?side2 A4.out).mono ?_); (case side1 => exact Kd.C_nil _ _); (case side2 => exact Nat.le_refl _); rintro e w5 ⟨v525, rfl, ho0, hb⟩; refine ⟨_, rfl, ?_⟩; have n0_ := Aside0.mk (Kd.V_lower (Kd.V_mono (ok' := fun k_ => True) ho0 (fun k_ hk_ => trivial)) (below_size (by repeat (first | exact HB.out | apply below_alloc | apply pw_below_drewN | apply below_drew1)))); have n1_ := Aside0.mk (below_step (by repeat (first | exact HB.out | apply below_alloc | apply pw_below_drewN | apply below_drew1)) hb); clear HB; have HO526 := n0_; have HB := n1_; clear n0_ n1_; (try clear hb); (try clear hb2); (try clear hk); (try clear hi); (try clear ho0)) | ((with_reducible refine gate_dst (N := 7) rfl ?_); refine box_event ?hg (N := 7) ?hd (cs := #[.slice none 0 0, .bool false, .bool false, .int .i64 0]) (t := 27) ?hr ?_; (case hd => rfl); (case hg => rfl); (case hr => first | (go_simp; done) | (go_simp; rfl)); intro gb531 hg w6 hbox hb; have n0_ := Aside0.mk (Kd.V_below (Kd.V_elderB (by (with_reducible repeat (first | apply Kd.V_alloc | apply Kd.V_drewN | apply Kd.V_drew)); exact HO526.out) gb531 (Nat.le_of_eq hg.symm)) hb); have n1_ := Aside0.mk (below_step (by repeat (first | exact HB.out | apply below_alloc | apply pw_below_drewN | apply below_drew1)) hb); have n2_ := Aside0.mk (hbox); have n3_ := Aside0.mk ((by rw [hg]; exact (below_size (by repeat (first | exact HB.out | apply below_alloc | apply pw_below_drewN | apply below_drew1))) : w.heap.size ≤ gb531)); have n4_ := Aside0.mk ((by rw [hg]; exact (below_size (by repeat (first | exact HB.out | apply below_alloc | apply pw_below_drewN | apply below_drew1))) : w.heap.size ≤ gb531)); clear HO526; clear HB; have HO526 := n0_; have HB := n1_; have BK531 := n2_; have GW531 := n3_; have GE531 := n4_; clear n0_ n1_ n2_ n3_ n4_; clear hb hbox hg; obtain ⟨Ao7, co7, eo7⟩ := Kd.V_slice HO526.out; subst eo7; have hcz8_0 : w6.cell? ⟨gb531, 0, none⟩ = some (.slice none 0 0) := (blk_cell BK531.out 0).trans rfl; have hcz8_1 : w6.cell? ⟨gb531, 1, none⟩ = some (.bool false) := (blk_cell BK531.out 1).trans rfl; have hcz8_2 : w6.cell? ⟨gb531, 2, none⟩ = some (.bool false) := (blk_cell BK531.out 2).trans rfl; have hcz8_3 : w6.cell? ⟨gb531, 3, none⟩ = some (.int .i64 0) := (blk_cell BK531.out 3).trans rfl; have hfz8_0 := blk_frozen BK531.out 0; have hfz8_1 := blk_frozen BK531.out 1; have hfz8_2 := blk_frozen BK531.out 2; have hfz8_3 := blk_frozen BK531.out 3))
 go_loopg [9] k (fun kq v9 w' => ∃ (x9_1 : Int) (x532000_1 : List (S44)) (x532001_1 : Bool) (x532002_1 : Bool) (x532003_1 : Int) (u532000 : Value), v9 = .int .i64 x9_1 ∧ Aside0 (clinkerlaw05_NandSteps.l0 kq l0 x9_1 x532000_1 x532001_1 x532002_1 x532003_1 = some r) ∧ Aside0 (kq ≤ k) ∧ Aside0 (Kd.V k44 44 w' w.heap.size (fun k_ => k_ ≠ gb531) u532000 x532000_1) ∧ Aside0 (w'.heap[gb531]? = some (.cells #[u532000, .bool x532001_1, .bool x532002_1, .int .i64 x532003_1] 27 (0, 0))) ∧ Aside0 (Below w.heap.size w w'))
 case atStart => exact ⟨(0), (t524), (t527), (t528), (t529), (.slice Ao7 t524.length co7), (by first | rfl | (simp; done) | (simp [*]; done)), H', ⟨Nat.le_refl _⟩, ⟨by (with_reducible repeat (first | apply Kd.V_alloc | apply Kd.V_drewN | apply Kd.V_drew)); exact Kd.V_mono (Kd.V_far (p := ⟨gb531, 3, none⟩) (Kd.V_far (p := ⟨gb531, 2, none⟩) (Kd.V_far (p := ⟨gb531, 1, none⟩) (Kd.V_far (p := ⟨gb531, 0, none⟩) (Kd.V_mono HO526.out (fun k_ hk => (⟨hk, hk.2⟩ : _ ∧ k_ ≠ gb531))) (fun _ hk => hk.2) _) (fun _ hk => hk.2) (.bool t527)) (fun _ hk => hk.2) (.bool t528)) (fun _ hk => hk.2) _) (fun _ hk => hk.1.2)⟩, ⟨by (with_reducible repeat (first | apply blk_drewN | apply blk_drew | apply blk_alloc)); refine blk_put (cs := #[.slice Ao7 t524.length co7, .bool t527, .bool t528, .int .i64 0]) ?_ 3 _ rfl; (with_reducible repeat (first | apply blk_drewN | apply blk_drew | apply blk_alloc)); refine blk_put (cs := #[.slice Ao7 t524.length co7, .bool t527, .bool false, .int .i64 0]) ?_ 2 _ rfl; (with_reducible repeat (first | apply blk_drewN | apply blk_drew | apply blk_alloc)); refine blk_put (cs := #[.slice Ao7 t524.length co7, .bool false, .bool false, .int .i64 0]) ?_ 1 _ rfl; (with_reducible repeat (first | apply blk_drewN | apply blk_drew | apply blk_alloc)); refine blk_put (cs := #[.slice none 0 0, .bool false, .bool false, .int .i64 0]) ?_ 0 _ rfl; (with_reducible repeat (first | apply blk_drewN | apply blk_drew | apply blk_alloc)); exact BK531.out⟩, ⟨by repeat (first | exact HB.out | apply below_alloc | apply pw_below_drewN | apply below_drew1 | refine below_set ?_ GE531.out)⟩⟩
 case round =>
  clear H'
  try clear c1
  try clear p2
  try clear c6
  try clear p6
  try clear hcz8_0
  try clear hcz8_1
  try clear hcz8_2
  try clear hcz8_3
  try clear hfz8_0
  try clear hfz8_1
  try clear hfz8_2
  try clear hfz8_3
  obtain ⟨x9_1, x532000_1, x532001_1, x532002_1, x532003_1, u532000, rfl, HA, HK1, HO_532000, BK531, HB⟩ := hrel
  cases gk with
  | zero => exact absurd HA.out (by simp [clinkerlaw05_NandSteps.l0])
  | succ k1 =>
   have H := HA.out
   clear HA
   simp only [clinkerlaw05_NandSteps.l0] at H
   have HC9 := Aside0.mk H
   clear H
   go_upto_region 3 with (fail)
   go_cut [32] (fun v32 wc => ∃ (kq : Nat) (x32_8 : Bool), v32 = .bool x32_8 ∧ Aside0 (clinkerlaw05_NandSteps.j1 kq l0 x9_1 x32_8 x532000_1 x532001_1 x532002_1 x532003_1 = some r) ∧ Aside0 (kq ≤ k1) ∧ Aside0 (Kd.V k44 44 wc w.heap.size (fun k_ => k_ ≠ gb531) u532000 x532000_1) ∧ Aside0 (wc.heap[gb531]? = some (.cells #[u532000, .bool x532001_1, .bool x532002_1, .int .i64 x532003_1] 27 (0, 0))) ∧ Aside0 (Below w.heap.size w wc))
   case first =>
    have H := HC9.out
    clear HC9
    by_cases c10 : x9_1 < (l0.length : Int)
    ·
     rw [if_pos c10] at H
     have c10b0 : decide (x9_1 < (l0.length : Int)) = true := decide_eq_true c10
     clear c10
     (first | rw [c10b0] | (simp only [i64_w, i32_w]; rw [c10b0]) | skip)
     have H' := Aside0.mk H
     clear H
     go_wp2
     go_meet
     case rel => exact ⟨_, (decide (x9_1 < 12)), (by first | rfl | (simp; done) | (simp [*]; done)), H', ⟨by have := HK1.out; first | omega | exact Nat.le_refl _⟩, ⟨by (with_reducible repeat (first | apply Kd.V_alloc | apply Kd.V_drewN | apply Kd.V_drew)); exact HO_532000.out⟩, ⟨by (with_reducible repeat (first | apply blk_drewN | apply blk_drew | apply blk_alloc)); exact BK531.out⟩, ⟨by repeat (first | exact HB.out | apply below_alloc | apply pw_below_drewN | apply below_drew1 | refine below_set ?_ GE531.out)⟩⟩
    ·
     rw [if_neg c10] at H
     have c10b0 : decide (x9_1 < (l0.length : Int)) = false := decide_eq_false c10
     clear c10
     (first | rw [c10b0] | (simp only [i64_w, i32_w]; rw [c10b0]) | skip)
     have H' := Aside0.mk H
     clear H
     go_wp2
     go_meet
     case rel => exact ⟨_, (false), (by first | rfl | (simp; done) | (simp [*]; done)), H', ⟨by have := HK1.out; first | omega | exact Nat.le_refl _⟩, ⟨by (with_reducible repeat (first | apply Kd.V_alloc | apply Kd.V_drewN | apply Kd.V_drew)); exact HO_532000.out⟩, ⟨by (with_reducible repeat (first | apply blk_drewN | apply blk_drew | apply blk_alloc)); exact BK531.out⟩, ⟨by repeat (first | exact HB.out | apply below_alloc | apply pw_below_drewN | apply below_drew1 | refine below_set ?_ GE531.out)⟩⟩
   case rest =>
    clear HC9
    try clear c1
    try clear p2
    try clear c6
    try clear p6
    try clear c10
    try clear c10b0
    try clear hcz8_0
    try clear hcz8_1
    try clear hcz8_2
    try clear hcz8_3
    try clear hfz8_0
    try clear hfz8_1
    try clear hfz8_2
    try clear hfz8_3
    try clear p2
    try clear p6
    obtain ⟨kq, x32_8, rfl, HA, HJ8, HO_532000, BK531, HB⟩ := hcut
    cases kq with
    | zero => exact absurd HA.out (by simp [clinkerlaw05_NandSteps.j1])
    | succ kj8 =>
     have H := HA.out
     clear HA
     simp only [clinkerlaw05_NandSteps.j1] at H
     by_cases c11 : x32_8 = true
     ·
      subst c11
      have H1 : (if 0 ≤ x9_1 then (if x9_1 < (l0.length : Int) then ((clinkerlaw05_done.f kj8 x532000_1 x532001_1 x532002_1 x532003_1 ((rd_T37 l0 x9_1).f0) ((rd_T37 l0 x9_1).f1) ((rd_T37 l0 x9_1).f2) ((rd_T37 l0 x9_1).f3) ((rd_T37 l0 x9_1).f4) ((rd_T37 l0 x9_1).f5)).bind fun bt534 => ((clinkerlaw05_Fate.f ((rd_T37 l0 x9_1).f0) ((rd_T37 l0 x9_1).f1) ((rd_T37 l0 x9_1).f2) ((rd_T37 l0 x9_1).f3) ((rd_T37 l0 x9_1).f4) ((rd_T37 l0 x9_1).f5)).bind fun bt546 => ((clinkerlaw05_same.f x532000_1 x532001_1 x532002_1 x532003_1 bt534.2.2.2.2.1 bt534.2.2.2.2.2 false ((rd_T37 l0 x9_1).f4) ((rd_T37 l0 x9_1).f5) bt546.1 bt546.2.1 bt546.2.2.1 bt546.2.2.2).bind fun t550 => (if t550 = true then (clinkerlaw05_NandSteps.l0 kj8 l0 (wrap64 (x9_1 + 1)) bt534.1 bt534.2.1 bt534.2.2.1 bt534.2.2.2.1) else (some false))))) else (none)) else (none)) = some r := by rw [if_pos rfl] at H; exact H
      clear H
      have H := H1
      clear H1
      by_cases c12 : 0 ≤ x9_1
      ·
       rw [if_pos c12] at H
       have c12b0 : decide (0 ≤ x9_1) = true := decide_eq_true c12
       clear c12
       by_cases c13 : x9_1 < (l0.length : Int)
       ·
        rw [if_pos c13] at H
        have c13b0 : decide (x9_1 < (l0.length : Int)) = true := decide_eq_true c13
        clear c13
        replace H := Option.bind_eq_some_iff.mp H
        obtain ⟨⟨t534, t537, t538, t539, t540, t541⟩, A140, H⟩ := H
        replace H : ((clinkerlaw05_Fate.f ((rd_T37 l0 x9_1).f0) ((rd_T37 l0 x9_1).f1) ((rd_T37 l0 x9_1).f2) ((rd_T37 l0 x9_1).f3) ((rd_T37 l0 x9_1).f4) ((rd_T37 l0 x9_1).f5)).bind fun bt546 => ((clinkerlaw05_same.f x532000_1 x532001_1 x532002_1 x532003_1 t540 t541 false ((rd_T37 l0 x9_1).f4) ((rd_T37 l0 x9_1).f5) bt546.1 bt546.2.1 bt546.2.2.1 bt546.2.2.2).bind fun t550 => (if t550 = true then (clinkerlaw05_NandSteps.l0 kj8 l0 (wrap64 (x9_1 + 1)) t534 t537 t538 t539) else (some false)))) = some r := H
        have A14 := Aside0.mk A140
        clear A140
        replace H := Option.bind_eq_some_iff.mp H
        obtain ⟨⟨t546, t547, t548, t549⟩, A150, H⟩ := H
        replace H : ((clinkerlaw05_same.f x532000_1 x532001_1 x532002_1 x532003_1 t540 t541 false ((rd_T37 l0 x9_1).f4) ((rd_T37 l0 x9_1).f5) t546 t547 t548 t549).bind fun t550 => (if t550 = true then (clinkerlaw05_NandSteps.l0 kj8 l0 (wrap64 (x9_1 + 1)) t534 t537 t538 t539) else (some false))) = some r := H
        have A15 := Aside0.mk A150
        clear A150
        replace H := Option.bind_eq_some_iff.mp H
        obtain ⟨t550, A160, H⟩ := H
        replace H : (if t550 = true then (clinkerlaw05_NandSteps.l0 kj8 l0 (wrap64 (x9_1 + 1)) t534 t537 t538 t539) else (some false)) = some r := H
        have A16 := Aside0.mk A160
        clear A160
        by_cases c17 : t550 = true
        ·
         subst c17
         have H1 : (clinkerlaw05_NandSteps.l0 kj8 l0 (wrap64 (x9_1 + 1)) t534 t537 t538 t539) = some r := by rw [if_pos rfl] at H; exact H
         clear H
         have H := H1
         clear H1
         have H' := Aside0.mk H
         clear H
         obtain ⟨Ao18, co18, eo18⟩ := Kd.V_slice HO_532000.out
         subst eo18
         try go_wp2
         have n0_ := Aside0.mk (Kd.V_drew HO_532000.out)
         have n1_ := Aside0.mk (blk_drew BK531.out)
         have n2_ := Aside0.mk (below_drew1 HB.out)
         clear HO_532000
         clear BK531
         clear HB
         have HO_532000 := n0_
         have BK531 := n1_
         have HB := n2_
         clear n0_ n1_ n2_
         have p533 : 0 ≤ (x9_1 : Int) := of_decide_eq_true (by first | (with_reducible assumption) | assumption)
         have q533 : x9_1 < (l0.length : Int) := of_decide_eq_true (by first | (with_reducible assumption) | assumption)
         obtain ⟨ad533, e533, hx533_0, hx533_1, hx533_2, hx533_3, hx533_4, hx533_5⟩ := at_T37 HR0.out x9_1 p533 q533
         have hw533_5 := hx533_5
         have hw533_4 := hx533_4
         have hw533_3 := hx533_3
         have hw533_2 := hx533_2
         have hw533_1 := hx533_1
         have hw533_0 := hx533_0
         cases e533
         replace hx533_0 := (HB.out.cell (World.block_lt_of_cell? w _ hx533_0)).trans hx533_0
         replace hx533_1 := (HB.out.cell (World.block_lt_of_cell? w _ hx533_1)).trans hx533_1
         replace hx533_2 := (HB.out.cell (World.block_lt_of_cell? w _ hx533_2)).trans hx533_2
         replace hx533_3 := (HB.out.cell (World.block_lt_of_cell? w _ hx533_3)).trans hx533_3
         replace hx533_4 := (HB.out.cell (World.block_lt_of_cell? w _ hx533_4)).trans hx533_4
         replace hx533_5 := (HB.out.cell (World.block_lt_of_cell? w _ hx533_5)).trans hx533_5
         replace p533 := eq_true p533
         replace q533 := eq_true q533
         refine start_ (n := 14) (S := fun w' => w'.cell? ⟨gb531, 0, none⟩ = some (.slice Ao18 x532000_1.length co18) ∧ w'.cell? ⟨gb531, 1, none⟩ = some (.bool x532001_1) ∧ w'.cell? ⟨gb531, 2, none⟩ = some (.bool x532002_1) ∧ w'.cell? ⟨gb531, 3, none⟩ = some (.int .i64 x532003_1) ∧ w'.cell? (ad533.add ((x9_1).toNat * 6)) = some (.int .u8 ((rd_T37 l0 x9_1).f0)) ∧ w'.cell? ⟨(ad533.add ((x9_1).toNat * 6)).block, (ad533.add ((x9_1).toNat * 6)).off + 1, none⟩ = some (.int .u8 ((rd_T37 l0 x9_1).f1)) ∧ w'.cell? ⟨(ad533.add ((x9_1).toNat * 6)).block, (ad533.add ((x9_1).toNat * 6)).off + 2, none⟩ = some (.int .u8 ((rd_T37 l0 x9_1).f2)) ∧ w'.cell? ⟨(ad533.add ((x9_1).toNat * 6)).block, (ad533.add ((x9_1).toNat * 6)).off + 3, none⟩ = some (.int .u8 ((rd_T37 l0 x9_1).f3)) ∧ w'.cell? ⟨(ad533.add ((x9_1).toNat * 6)).block, (ad533.add ((x9_1).toNat * 6)).off + 4, none⟩ = some (.string ((rd_T37 l0 x9_1).f4)) ∧ w'.cell? ⟨(ad533.add ((x9_1).toNat * 6)).block, (ad533.add ((x9_1).toNat * 6)).off + 5, none⟩ = some (.string ((rd_T37 l0 x9_1).f5))) (ds := []) #[false, false, false, false, false, false, false, false, false, false, false, false, false, false] (by kernel_rfl) rfl rfl ⟨(blk_cell BK531.out 0).trans rfl, (blk_cell BK531.out 1).trans rfl, (blk_cell BK531.out 2).trans rfl, (blk_cell BK531.out 3).trans rfl, ((HB.out.cell (World.block_lt_of_cell? w _ hw533_0)).trans hw533_0), ((HB.out.cell (World.block_lt_of_cell? w _ hw533_1)).trans hw533_1), ((HB.out.cell (World.block_lt_of_cell? w _ hw533_2)).trans hw533_2), ((HB.out.cell (World.block_lt_of_cell? w _ hw533_3)).trans hw533_3), ((HB.out.cell (World.block_lt_of_cell? w _ hw533_4)).trans hw533_4), ((HB.out.cell (World.block_lt_of_cell? w _ hw533_5)).trans hw533_5)⟩ (fun hHeld => ?_); refine with_tabW clinkerlaw05_NandSteps.tab5 clinkerlaw05_NandSteps.bits5 (fun HT_ HW_ => ?_)
         generalize wc.drew = w19 at HO_532000 BK531 HB hx533_0 hx533_1 hx533_2 hx533_3 hx533_4 hx533_5 hHeld ⊢
         refine pure_ (i := 1) (N := some 37) (v := ?_) (a' := ?_) #[false, true, false, false, false, false, false, false, false, false, false, false, false, false] rfl rfl (any_of HT_.out (by kernel_rfl)) (fun _ _ _ h => h) (Or.inl ⟨by rfl, ?_⟩) ?_ ?_
         rotate_left
         ·
          intro w'
          go_simp
          with_reducible rfl
         rotate_left
         ·
          simp only [Act.put, List.setIfInBounds_toArray, List.set_cons_zero, List.set_cons_succ, i64_w, i32_w]
          rfl
         refine pure_ (i := 2) (N := some 38) (v := ?_) (a' := ?_) #[false, true, true, false, false, false, false, false, false, false, false, false, false, false] rfl rfl (any_of HT_.out (by kernel_rfl)) (fun _ _ _ h => h) (Or.inl ⟨by rfl, ?_⟩) ?_ ?_
         rotate_left
         ·
          intro w'
          go_simp
          with_reducible rfl
         rotate_left
         ·
          simp only [Act.put, List.setIfInBounds_toArray, List.set_cons_zero, List.set_cons_succ, i64_w, i32_w]
          rfl
         refine pure_ (i := 3) (N := some 39) (v := ?_) (a' := ?_) #[false, true, true, true, false, false, false, false, false, false, false, false, false, false] rfl rfl (any_of HT_.out (by kernel_rfl)) (fun _ _ _ h => h) (Or.inl ⟨by rfl, ?_⟩) ?_ ?_
         rotate_left
         ·
          intro w'
          go_simp
          with_reducible rfl
         rotate_left
         ·
          simp only [Act.put, List.setIfInBounds_toArray, List.set_cons_zero, List.set_cons_succ, i64_w, i32_w]
          rfl
         refine take_ (i := 0) (N := some 36) (v := ?_) (a' := ?_) #[true, true, true, true, false, false, false, false, false, false, false, false, false, false] rfl rfl (take_ofW HT_.out HW_.out (by kernel_rfl)) (fun _ _ _ h => h) (Or.inl ⟨by rfl, ?_⟩) hHeld ?_ ?_
         rotate_left
         ·
          rintro w' ⟨s0, s1, s2, s3, s4, s5, s6, s7, s8, s9⟩
          go_simp
          with_reducible rfl
         rotate_left
         ·
          simp only [Act.put, List.setIfInBounds_toArray, List.set_cons_zero, List.set_cons_succ, i64_w, i32_w]
          rfl
         refine take_ (i := 4) (N := some 40) (v := ?_) (a' := ?_) #[true, true, true, true, true, false, false, false, false, false, false, false, false, false] rfl rfl (take_ofW HT_.out HW_.out (by kernel_rfl)) (fun _ _ _ h => h) (Or.inl ⟨by rfl, ?_⟩) hHeld ?_ ?_
         rotate_left
         ·
          rintro w' ⟨s0, s1, s2, s3, s4, s5, s6, s7, s8, s9⟩
          go_simp
          with_reducible rfl
         rotate_left
         ·
          simp only [Act.put, List.setIfInBounds_toArray, List.set_cons_zero, List.set_cons_succ, i64_w, i32_w]
          rfl
         refine join_ (σ := Value × Nat) 3 #[true, true, true, true, true, true, true, true, true, true, true, false, false, false] (fun s_ => [(41, .tuple #[.agg #[s_.1, .bool t537, .bool t538, .int .i64 t539], .int .i64 t540, .int .i64 t541]), (10, .pointer (some ⟨s_.2, 0, none⟩)), (35, .tuple #[.agg #[s_.1, .bool t537, .bool t538, .int .i64 t539], .int .i64 t540, .int .i64 t541]), (42, .agg #[s_.1, .bool t537, .bool t538, .int .i64 t539]), (43, .int .i64 t540), (44, .int .i64 t541)]) (fun s_ w' => (w'.cell? ⟨gb531, 0, none⟩ = some (.slice Ao18 x532000_1.length co18) ∧ w'.cell? ⟨gb531, 1, none⟩ = some (.bool x532001_1) ∧ w'.cell? ⟨gb531, 2, none⟩ = some (.bool x532002_1) ∧ w'.cell? ⟨gb531, 3, none⟩ = some (.int .i64 x532003_1) ∧ w'.cell? (ad533.add ((x9_1).toNat * 6)) = some (.int .u8 ((rd_T37 l0 x9_1).f0)) ∧ w'.cell? ⟨(ad533.add ((x9_1).toNat * 6)).block, (ad533.add ((x9_1).toNat * 6)).off + 1, none⟩ = some (.int .u8 ((rd_T37 l0 x9_1).f1)) ∧ w'.cell? ⟨(ad533.add ((x9_1).toNat * 6)).block, (ad533.add ((x9_1).toNat * 6)).off + 2, none⟩ = some (.int .u8 ((rd_T37 l0 x9_1).f2)) ∧ w'.cell? ⟨(ad533.add ((x9_1).toNat * 6)).block, (ad533.add ((x9_1).toNat * 6)).off + 3, none⟩ = some (.int .u8 ((rd_T37 l0 x9_1).f3)) ∧ w'.cell? ⟨(ad533.add ((x9_1).toNat * 6)).block, (ad533.add ((x9_1).toNat * 6)).off + 4, none⟩ = some (.string ((rd_T37 l0 x9_1).f4)) ∧ w'.cell? ⟨(ad533.add ((x9_1).toNat * 6)).block, (ad533.add ((x9_1).toNat * 6)).off + 5, none⟩ = some (.string ((rd_T37 l0 x9_1).f5))) ∧ (Kd.V k44 44 w' w.heap.size (fun k_ => k_ ≠ gb531 ∧ k_ ≠ s_.2) s_.1 t534) ∧ (Kd.V k44 44 w' w.heap.size (fun k_ => k_ ≠ gb531 ∧ k_ ≠ s_.2) (.slice Ao18 x532000_1.length co18) x532000_1) ∧ (w'.heap[gb531]? = some (.cells #[.slice Ao18 x532000_1.length co18, .bool x532001_1, .bool x532002_1, .int .i64 x532003_1] 27 (0, 0))) ∧ (w'.heap[s_.2]? = some (.cells #[.slice none 0 0, .bool false, .bool false, .int .i64 0] 27 (0, 0))) ∧ (w.heap.size ≤ s_.2) ∧ (w.heap.size ≤ s_.2) ∧ (gb531 ≠ s_.2) ∧ (s_.2 ≠ gb531) ∧ (Below w.heap.size w w')) ?_ ?_
         rotate_left
         ·
          intro hCont
          refine two_ (i := 5) (j := 10) (Ni := some 41) (Nj := some 10) #[true, true, true, true, true, true, false, false, false, false, false, false, false, false] #[true, true, true, true, true, false, false, false, false, false, true, false, false, false] rfl rfl rfl rfl (two_of HT_.out (by kernel_rfl)) (by decide) (by decide) (fun K hK => ?_) (fun K hK => ?_)
          ·
           skip
           refine goes_ Try.func15 (by kernel_rfl) rfl #[.agg #[.slice Ao18 x532000_1.length co18, .bool x532001_1, .bool x532002_1, .int .i64 x532003_1], .agg #[.int .u8 ((rd_T37 l0 x9_1).f0), .int .u8 ((rd_T37 l0 x9_1).f1), .int .u8 ((rd_T37 l0 x9_1).f2), .int .u8 ((rd_T37 l0 x9_1).f3), .string ((rd_T37 l0 x9_1).f4), .string ((rd_T37 l0 x9_1).f5)]] (by rfl) rfl rfl (by (try simp only [List.map_toArray, List.map_cons, List.map_nil]); first | done | rfl | (simp only [List.length_drop, List.length_take]; rfl)) ?_
           with_reducible refine (clinkerlaw05_done.calls kj8 _ _ x532000_1 x532001_1 x532002_1 x532003_1 ((rd_T37 l0 x9_1).f0) ((rd_T37 l0 x9_1).f1) ((rd_T37 l0 x9_1).f2) ((rd_T37 l0 x9_1).f3) ((rd_T37 l0 x9_1).f4) ((rd_T37 l0 x9_1).f5) t534 t537 t538 t539 t540 t541 _ ?side1 ?side2 A14.out).mono ?_
           (case side1 => repeat (first | exact (Kd.V_reads' HO_532000.out).2.2 | (with_reducible refine Kd.C_alloc ?_ _) | (with_reducible refine Kd.C_drewN ?_ _) | (with_reducible refine Kd.C_drew ?_)))
           (case side2 => exact (Kd.V_reads' HO_532000.out).2.1)
           rintro e w20 ⟨v535, rfl, ho0, hb⟩
           refine ⟨_, rfl, ?_⟩
           have n0_ := Aside0.mk (Kd.V_below (by (with_reducible repeat (first | apply Kd.V_alloc | apply Kd.V_drewN | apply Kd.V_drew)); exact HO_532000.out) hb)
           have n1_ := Aside0.mk (Kd.V_lower (Kd.V_mono (ok' := fun k_ => k_ ≠ gb531) ho0 (fun k_ hk_ => (Kd.freshB (g := gb531) (o := .cells #[.slice Ao18 x532000_1.length co18, .bool x532001_1, .bool x532002_1, .int .i64 x532003_1] 27 (0, 0)) (by (with_reducible repeat (first | apply blk_drewN | apply blk_drew | apply blk_alloc)); exact BK531.out) k_ hk_))) (below_size (by repeat (first | exact HB.out | apply below_alloc | apply pw_below_drewN | apply below_drew1 | refine below_set ?_ GE531.out))))
           have n2_ := Aside0.mk (blk_below (g := gb531) (o := .cells #[.slice Ao18 x532000_1.length co18, .bool x532001_1, .bool x532002_1, .int .i64 x532003_1] 27 (0, 0)) (by (with_reducible repeat (first | apply blk_drewN | apply blk_drew | apply blk_alloc)); exact BK531.out) hb)
           have n3_ := Aside0.mk (below_step (by repeat (first | exact HB.out | apply below_alloc | apply pw_below_drewN | apply below_drew1 | refine below_set ?_ GE531.out)) hb)
           clear HO_532000
           clear BK531
           clear HB
           have HO_532000 := n0_
           have HO536 := n1_
           have BK531 := n2_
           have HB := n3_
           clear n0_ n1_ n2_ n3_
           (try clear hb)
           (try clear hb2)
           (try clear hk)
           (try clear hi)
           (try clear ho0)
           refine hK.out _ _ ⟨(blk_cell BK531.out 0).trans rfl, (blk_cell BK531.out 1).trans rfl, (blk_cell BK531.out 2).trans rfl, (blk_cell BK531.out 3).trans rfl, ((HB.out.cell (World.block_lt_of_cell? w _ hw533_0)).trans hw533_0), ((HB.out.cell (World.block_lt_of_cell? w _ hw533_1)).trans hw533_1), ((HB.out.cell (World.block_lt_of_cell? w _ hw533_2)).trans hw533_2), ((HB.out.cell (World.block_lt_of_cell? w _ hw533_3)).trans hw533_3), ((HB.out.cell (World.block_lt_of_cell? w _ hw533_4)).trans hw533_4), ((HB.out.cell (World.block_lt_of_cell? w _ hw533_5)).trans hw533_5)⟩ (fun hHeld => ?_)
           clear hK K
           refine norm_ (a' := ?_) ?_ ?_
           rotate_left
           ·
            show Act.put _ (some 41) _ = _
            simp only [Act.put, List.setIfInBounds_toArray, List.set_cons_zero, List.set_cons_succ, i64_w, i32_w]
            rfl
           refine pure_ (i := 6) (N := some 35) (v := ?_) (a' := ?_) #[true, true, true, true, true, true, true, false, false, false, false, false, false, false] rfl rfl (any_of HT_.out (by kernel_rfl)) (fun _ _ _ h => h) (Or.inl ⟨by rfl, ?_⟩) ?_ ?_
           rotate_left
           ·
            intro w'
            go_simp
            with_reducible rfl
           rotate_left
           ·
            simp only [Act.put, List.setIfInBounds_toArray, List.set_cons_zero, List.set_cons_succ, i64_w, i32_w]
            rfl
           refine pure_ (i := 7) (N := some 42) (v := ?_) (a' := ?_) #[true, true, true, true, true, true, true, true, false, false, false, false, false, false] rfl rfl (any_of HT_.out (by kernel_rfl)) (fun _ _ _ h => h) (Or.inl ⟨by rfl, ?_⟩) ?_ ?_
           rotate_left
           ·
            intro w'
            go_simp
            with_reducible rfl
           rotate_left
           ·
            simp only [Act.put, List.setIfInBounds_toArray, List.set_cons_zero, List.set_cons_succ, i64_w, i32_w]
            rfl
           refine pure_ (i := 8) (N := some 43) (v := ?_) (a' := ?_) #[true, true, true, true, true, true, true, true, true, false, false, false, false, false] rfl rfl (any_of HT_.out (by kernel_rfl)) (fun _ _ _ h => h) (Or.inl ⟨by rfl, ?_⟩) ?_ ?_
           rotate_left
           ·
            intro w'
            go_simp
            with_reducible rfl
           rotate_left
           ·
            simp only [Act.put, List.setIfInBounds_toArray, List.set_cons_zero, List.set_cons_succ, i64_w, i32_w]
            rfl
           refine pure_ (i := 9) (N := some 44) (v := ?_) (a' := ?_) #[true, true, true, true, true, true, true, true, true, true, false, false, false, false] rfl rfl (any_of HT_.out (by kernel_rfl)) (fun _ _ _ h => h) (Or.inl ⟨by rfl, ?_⟩) ?_ ?_
           rotate_left
           ·
            intro w'
            go_simp
            with_reducible rfl
           rotate_left
           ·
            simp only [Act.put, List.setIfInBounds_toArray, List.set_cons_zero, List.set_cons_succ, i64_w, i32_w]
            rfl
           refine one_ (i := 10) (N := some 10) #[true, true, true, true, true, true, true, true, true, true, true, false, false, false] rfl rfl (one_of HT_.out (by kernel_rfl)) (by decide) (fun K hK => ?_)
           refine box_step ?hg (N := 10) ?hd (cs := #[.slice none 0 0, .bool false, .bool false, .int .i64 0]) (t := 27) ?hr ?_; (case hd => rfl); (case hg => rfl); (case hr => first | (go_simp; done) | (go_simp; rfl))
           intro gb542 hg w21 hbox hb
           have n0_ := Aside0.mk (Kd.V_below (Kd.V_elderB (by (with_reducible repeat (first | apply Kd.V_alloc | apply Kd.V_drewN | apply Kd.V_drew)); exact HO_532000.out) gb542 (Nat.le_of_eq hg.symm)) hb)
           have n1_ := Aside0.mk (Kd.V_below (Kd.V_elderB (by (with_reducible repeat (first | apply Kd.V_alloc | apply Kd.V_drewN | apply Kd.V_drew)); exact HO536.out) gb542 (Nat.le_of_eq hg.symm)) hb)
           have n2_ := Aside0.mk (blk_below (g := gb531) (o := .cells #[.slice Ao18 x532000_1.length co18, .bool x532001_1, .bool x532002_1, .int .i64 x532003_1] 27 (0, 0)) (by (with_reducible repeat (first | apply blk_drewN | apply blk_drew | apply blk_alloc)); exact BK531.out) hb)
           have n3_ := Aside0.mk (below_step (by repeat (first | exact HB.out | apply below_alloc | apply pw_below_drewN | apply below_drew1 | refine below_set ?_ GE531.out)) hb)
           have n4_ := Aside0.mk (hbox)
           have n5_ := Aside0.mk ((by rw [hg]; exact (below_size (by repeat (first | exact HB.out | apply below_alloc | apply pw_below_drewN | apply below_drew1 | refine below_set ?_ GE531.out))) : w.heap.size ≤ gb542))
           have n6_ := Aside0.mk ((by rw [hg]; exact (below_size (by repeat (first | exact HB.out | apply below_alloc | apply pw_below_drewN | apply below_drew1 | refine below_set ?_ GE531.out))) : w.heap.size ≤ gb542))
           have n7_ := Aside0.mk ((by rw [hg]; exact Nat.ne_of_lt (blk_lt (g := gb531) (o := .cells #[.slice Ao18 x532000_1.length co18, .bool x532001_1, .bool x532002_1, .int .i64 x532003_1] 27 (0, 0)) (by (with_reducible repeat (first | apply blk_drewN | apply blk_drew | apply blk_alloc)); exact BK531.out)) : gb531 ≠ gb542))
           have n8_ := Aside0.mk ((by rw [hg]; exact Nat.ne_of_gt (blk_lt (g := gb531) (o := .cells #[.slice Ao18 x532000_1.length co18, .bool x532001_1, .bool x532002_1, .int .i64 x532003_1] 27 (0, 0)) (by (with_reducible repeat (first | apply blk_drewN | apply blk_drew | apply blk_alloc)); exact BK531.out)) : gb542 ≠ gb531))
           clear HO_532000
           clear HO536
           clear BK531
           clear HB
           have HO_532000 := n0_
           have HO536 := n1_
           have BK531 := n2_
           have HB := n3_
           have BK542 := n4_
           have GW542 := n5_
           have GE542 := n6_
           have NB531_542 := n7_
           have NB542_531 := n8_
           clear n0_ n1_ n2_ n3_ n4_ n5_ n6_ n7_ n8_
           clear hb hbox hg
           refine hK.out _ _ ⟨(blk_cell BK531.out 0).trans rfl, (blk_cell BK531.out 1).trans rfl, (blk_cell BK531.out 2).trans rfl, (blk_cell BK531.out 3).trans rfl, ((HB.out.cell (World.block_lt_of_cell? w _ hw533_0)).trans hw533_0), ((HB.out.cell (World.block_lt_of_cell? w _ hw533_1)).trans hw533_1), ((HB.out.cell (World.block_lt_of_cell? w _ hw533_2)).trans hw533_2), ((HB.out.cell (World.block_lt_of_cell? w _ hw533_3)).trans hw533_3), ((HB.out.cell (World.block_lt_of_cell? w _ hw533_4)).trans hw533_4), ((HB.out.cell (World.block_lt_of_cell? w _ hw533_5)).trans hw533_5)⟩ (fun hHeld => ?_)
           clear hK K
           refine norm_ (a' := ?_) ?_ ?_
           rotate_left
           ·
            show Act.put _ (some 10) _ = _
            simp only [Act.put, List.setIfInBounds_toArray, List.set_cons_zero, List.set_cons_succ, i64_w, i32_w]
            rfl
           exact norm_ (by simp only [putAll, Act.put, List.setIfInBounds_toArray, List.set_cons_zero, List.set_cons_succ]) (hCont (v535, gb542) _ ⟨hHeld, (by (with_reducible repeat (first | apply Kd.V_alloc | apply Kd.V_drewN | apply Kd.V_drew)); exact HO536.out), (by (with_reducible repeat (first | apply Kd.V_alloc | apply Kd.V_drewN | apply Kd.V_drew)); exact HO_532000.out), (by (with_reducible repeat (first | apply blk_drewN | apply blk_drew | apply blk_alloc)); exact BK531.out), (by (with_reducible repeat (first | apply blk_drewN | apply blk_drew | apply blk_alloc)); exact BK542.out), GW542.out, GE542.out, NB531_542.out, NB542_531.out, (by repeat (first | (with_reducible first | exact HB.out | apply below_alloc | apply pw_below_drewN | apply below_drew1 | refine below_set ?_ GE531.out | refine below_set ?_ GE542.out) | exact HB.out))⟩)
          ·
           skip
           refine box_step ?hg (N := 10) ?hd (cs := #[.slice none 0 0, .bool false, .bool false, .int .i64 0]) (t := 27) ?hr ?_; (case hd => rfl); (case hg => rfl); (case hr => first | (go_simp; done) | (go_simp; rfl))
           intro gb542 hg w20 hbox hb
           have n0_ := Aside0.mk (Kd.V_below (Kd.V_elderB (by (with_reducible repeat (first | apply Kd.V_alloc | apply Kd.V_drewN | apply Kd.V_drew)); exact HO_532000.out) gb542 (Nat.le_of_eq hg.symm)) hb)
           have n1_ := Aside0.mk (blk_below (g := gb531) (o := .cells #[.slice Ao18 x532000_1.length co18, .bool x532001_1, .bool x532002_1, .int .i64 x532003_1] 27 (0, 0)) (by (with_reducible repeat (first | apply blk_drewN | apply blk_drew | apply blk_alloc)); exact BK531.out) hb)
           have n2_ := Aside0.mk (below_step (by repeat (first | exact HB.out | apply below_alloc | apply pw_below_drewN | apply below_drew1 | refine below_set ?_ GE531.out)) hb)
           have n3_ := Aside0.mk (hbox)
           have n4_ := Aside0.mk ((by rw [hg]; exact (below_size (by repeat (first | exact HB.out | apply below_alloc | apply pw_below_drewN | apply below_drew1 | refine below_set ?_ GE531.out))) : w.heap.size ≤ gb542))
           have n5_ := Aside0.mk ((by rw [hg]; exact (below_size (by repeat (first | exact HB.out | apply below_alloc | apply pw_below_drewN | apply below_drew1 | refine below_set ?_ GE531.out))) : w.heap.size ≤ gb542))
           have n6_ := Aside0.mk ((by rw [hg]; exact Nat.ne_of_lt (blk_lt (g := gb531) (o := .cells #[.slice Ao18 x532000_1.length co18, .bool x532001_1, .bool x532002_1, .int .i64 x532003_1] 27 (0, 0)) (by (with_reducible repeat (first | apply blk_drewN | apply blk_drew | apply blk_alloc)); exact BK531.out)) : gb531 ≠ gb542))
           have n7_ := Aside0.mk ((by rw [hg]; exact Nat.ne_of_gt (blk_lt (g := gb531) (o := .cells #[.slice Ao18 x532000_1.length co18, .bool x532001_1, .bool x532002_1, .int .i64 x532003_1] 27 (0, 0)) (by (with_reducible repeat (first | apply blk_drewN | apply blk_drew | apply blk_alloc)); exact BK531.out)) : gb542 ≠ gb531))
           clear HO_532000
           clear BK531
           clear HB
           have HO_532000 := n0_
           have BK531 := n1_
           have HB := n2_
           have BK542 := n3_
           have GW542 := n4_
           have GE542 := n5_
           have NB531_542 := n6_
           have NB542_531 := n7_
           clear n0_ n1_ n2_ n3_ n4_ n5_ n6_ n7_
           clear hb hbox hg
           refine hK.out _ _ ⟨(blk_cell BK531.out 0).trans rfl, (blk_cell BK531.out 1).trans rfl, (blk_cell BK531.out 2).trans rfl, (blk_cell BK531.out 3).trans rfl, ((HB.out.cell (World.block_lt_of_cell? w _ hw533_0)).trans hw533_0), ((HB.out.cell (World.block_lt_of_cell? w _ hw533_1)).trans hw533_1), ((HB.out.cell (World.block_lt_of_cell? w _ hw533_2)).trans hw533_2), ((HB.out.cell (World.block_lt_of_cell? w _ hw533_3)).trans hw533_3), ((HB.out.cell (World.block_lt_of_cell? w _ hw533_4)).trans hw533_4), ((HB.out.cell (World.block_lt_of_cell? w _ hw533_5)).trans hw533_5)⟩ (fun hHeld => ?_)
           clear hK K
           refine norm_ (a' := ?_) ?_ ?_
           rotate_left
           ·
            show Act.put _ (some 10) _ = _
            simp only [Act.put, List.setIfInBounds_toArray, List.set_cons_zero, List.set_cons_succ, i64_w, i32_w]
            rfl
           refine one_ (i := 5) (N := some 41) #[true, true, true, true, true, true, false, false, false, false, true, false, false, false] rfl rfl (one_of HT_.out (by kernel_rfl)) (by decide) (fun K hK => ?_)
           refine goes_ Try.func15 (by kernel_rfl) rfl #[.agg #[.slice Ao18 x532000_1.length co18, .bool x532001_1, .bool x532002_1, .int .i64 x532003_1], .agg #[.int .u8 ((rd_T37 l0 x9_1).f0), .int .u8 ((rd_T37 l0 x9_1).f1), .int .u8 ((rd_T37 l0 x9_1).f2), .int .u8 ((rd_T37 l0 x9_1).f3), .string ((rd_T37 l0 x9_1).f4), .string ((rd_T37 l0 x9_1).f5)]] (by rfl) rfl rfl (by (try simp only [List.map_toArray, List.map_cons, List.map_nil]); first | done | rfl | (simp only [List.length_drop, List.length_take]; rfl)) ?_
           with_reducible refine (clinkerlaw05_done.calls kj8 _ _ x532000_1 x532001_1 x532002_1 x532003_1 ((rd_T37 l0 x9_1).f0) ((rd_T37 l0 x9_1).f1) ((rd_T37 l0 x9_1).f2) ((rd_T37 l0 x9_1).f3) ((rd_T37 l0 x9_1).f4) ((rd_T37 l0 x9_1).f5) t534 t537 t538 t539 t540 t541 _ ?side1 ?side2 A14.out).mono ?_
           (case side1 => repeat (first | exact (Kd.V_reads' HO_532000.out).2.2 | (with_reducible refine Kd.C_alloc ?_ _) | (with_reducible refine Kd.C_drewN ?_ _) | (with_reducible refine Kd.C_drew ?_)))
           (case side2 => exact (Kd.V_reads' HO_532000.out).2.1)
           rintro e w21 ⟨v535, rfl, ho0, hb⟩
           refine ⟨_, rfl, ?_⟩
           have n0_ := Aside0.mk (Kd.V_below (by (with_reducible repeat (first | apply Kd.V_alloc | apply Kd.V_drewN | apply Kd.V_drew)); exact HO_532000.out) hb)
           have n1_ := Aside0.mk (Kd.V_lower (Kd.V_mono (ok' := fun k_ => k_ ≠ gb531 ∧ k_ ≠ gb542) ho0 (fun k_ hk_ => ⟨(Kd.freshB (g := gb531) (o := .cells #[.slice Ao18 x532000_1.length co18, .bool x532001_1, .bool x532002_1, .int .i64 x532003_1] 27 (0, 0)) (by (with_reducible repeat (first | apply blk_drewN | apply blk_drew | apply blk_alloc)); exact BK531.out) k_ hk_), (Kd.freshB (g := gb542) (o := .cells #[.slice none 0 0, .bool false, .bool false, .int .i64 0] 27 (0, 0)) (by (with_reducible repeat (first | apply blk_drewN | apply blk_drew | apply blk_alloc)); exact BK542.out) k_ hk_)⟩)) (below_size (by repeat (first | (with_reducible first | exact HB.out | apply below_alloc | apply pw_below_drewN | apply below_drew1 | refine below_set ?_ GE531.out | refine below_set ?_ GE542.out) | exact HB.out))))
           have n2_ := Aside0.mk (blk_below (g := gb531) (o := .cells #[.slice Ao18 x532000_1.length co18, .bool x532001_1, .bool x532002_1, .int .i64 x532003_1] 27 (0, 0)) (by (with_reducible repeat (first | apply blk_drewN | apply blk_drew | apply blk_alloc)); exact BK531.out) hb)
           have n3_ := Aside0.mk (blk_below (g := gb542) (o := .cells #[.slice none 0 0, .bool false, .bool false, .int .i64 0] 27 (0, 0)) (by (with_reducible repeat (first | apply blk_drewN | apply blk_drew | apply blk_alloc)); exact BK542.out) hb)
           have n4_ := Aside0.mk (below_step (by repeat (first | (with_reducible first | exact HB.out | apply below_alloc | apply pw_below_drewN | apply below_drew1 | refine below_set ?_ GE531.out | refine below_set ?_ GE542.out) | exact HB.out)) hb)
           clear HO_532000
           clear BK531
           clear BK542
           clear HB
           have HO_532000 := n0_
           have HO536 := n1_
           have BK531 := n2_
           have BK542 := n3_
           have HB := n4_
           clear n0_ n1_ n2_ n3_ n4_
           (try clear hb)
           (try clear hb2)
           (try clear hk)
           (try clear hi)
           (try clear ho0)
           refine hK.out _ _ ⟨(blk_cell BK531.out 0).trans rfl, (blk_cell BK531.out 1).trans rfl, (blk_cell BK531.out 2).trans rfl, (blk_cell BK531.out 3).trans rfl, ((HB.out.cell (World.block_lt_of_cell? w _ hw533_0)).trans hw533_0), ((HB.out.cell (World.block_lt_of_cell? w _ hw533_1)).trans hw533_1), ((HB.out.cell (World.block_lt_of_cell? w _ hw533_2)).trans hw533_2), ((HB.out.cell (World.block_lt_of_cell? w _ hw533_3)).trans hw533_3), ((HB.out.cell (World.block_lt_of_cell? w _ hw533_4)).trans hw533_4), ((HB.out.cell (World.block_lt_of_cell? w _ hw533_5)).trans hw533_5)⟩ (fun hHeld => ?_)
           clear hK K
           refine norm_ (a' := ?_) ?_ ?_
           rotate_left
           ·
            show Act.put _ (some 41) _ = _
            simp only [Act.put, List.setIfInBounds_toArray, List.set_cons_zero, List.set_cons_succ, i64_w, i32_w]
            rfl
           refine pure_ (i := 6) (N := some 35) (v := ?_) (a' := ?_) #[true, true, true, true, true, true, true, false, false, false, true, false, false, false] rfl rfl (any_of HT_.out (by kernel_rfl)) (fun _ _ _ h => h) (Or.inl ⟨by rfl, ?_⟩) ?_ ?_
           rotate_left
           ·
            intro w'
            go_simp
            with_reducible rfl
           rotate_left
           ·
            simp only [Act.put, List.setIfInBounds_toArray, List.set_cons_zero, List.set_cons_succ, i64_w, i32_w]
            rfl
           refine pure_ (i := 7) (N := some 42) (v := ?_) (a' := ?_) #[true, true, true, true, true, true, true, true, false, false, true, false, false, false] rfl rfl (any_of HT_.out (by kernel_rfl)) (fun _ _ _ h => h) (Or.inl ⟨by rfl, ?_⟩) ?_ ?_
           rotate_left
           ·
            intro w'
            go_simp
            with_reducible rfl
           rotate_left
           ·
            simp only [Act.put, List.setIfInBounds_toArray, List.set_cons_zero, List.set_cons_succ, i64_w, i32_w]
            rfl
           refine pure_ (i := 8) (N := some 43) (v := ?_) (a' := ?_) #[true, true, true, true, true, true, true, true, true, false, true, false, false, false] rfl rfl (any_of HT_.out (by kernel_rfl)) (fun _ _ _ h => h) (Or.inl ⟨by rfl, ?_⟩) ?_ ?_
           rotate_left
           ·
            intro w'
            go_simp
            with_reducible rfl
           rotate_left
           ·
            simp only [Act.put, List.setIfInBounds_toArray, List.set_cons_zero, List.set_cons_succ, i64_w, i32_w]
            rfl
           refine pure_ (i := 9) (N := some 44) (v := ?_) (a' := ?_) #[true, true, true, true, true, true, true, true, true, true, true, false, false, false] rfl rfl (any_of HT_.out (by kernel_rfl)) (fun _ _ _ h => h) (Or.inl ⟨by rfl, ?_⟩) ?_ ?_
           rotate_left
           ·
            intro w'
            go_simp
            with_reducible rfl
           rotate_left
           ·
            simp only [Act.put, List.setIfInBounds_toArray, List.set_cons_zero, List.set_cons_succ, i64_w, i32_w]
            rfl
           exact norm_ (by simp only [putAll, Act.put, List.setIfInBounds_toArray, List.set_cons_zero, List.set_cons_succ]) (hCont (v535, gb542) _ ⟨hHeld, (by (with_reducible repeat (first | apply Kd.V_alloc | apply Kd.V_drewN | apply Kd.V_drew)); exact HO536.out), (by (with_reducible repeat (first | apply Kd.V_alloc | apply Kd.V_drewN | apply Kd.V_drew)); exact HO_532000.out), (by (with_reducible repeat (first | apply blk_drewN | apply blk_drew | apply blk_alloc)); exact BK531.out), (by (with_reducible repeat (first | apply blk_drewN | apply blk_drew | apply blk_alloc)); exact BK542.out), GW542.out, GE542.out, NB531_542.out, NB542_531.out, (by repeat (first | (with_reducible first | exact HB.out | apply below_alloc | apply pw_below_drewN | apply below_drew1 | refine below_set ?_ GE531.out | refine below_set ?_ GE542.out) | exact HB.out))⟩)
         rintro ⟨v535, gb542⟩ w22 ⟨hS_, h0_, h1_, h2_, h3_, h4_, h5_, h6_, h7_, h8_⟩
         have n0_ : Aside0 (Kd.V k44 44 w22 w.heap.size (fun k_ => k_ ≠ gb531 ∧ k_ ≠ gb542) v535 t534) := ⟨h0_⟩
         have n1_ : Aside0 (Kd.V k44 44 w22 w.heap.size (fun k_ => k_ ≠ gb531 ∧ k_ ≠ gb542) (.slice Ao18 x532000_1.length co18) x532000_1) := ⟨h1_⟩
         have n2_ : Aside0 (w22.heap[gb531]? = some (.cells #[.slice Ao18 x532000_1.length co18, .bool x532001_1, .bool x532002_1, .int .i64 x532003_1] 27 (0, 0))) := ⟨h2_⟩
         have n3_ : Aside0 (w22.heap[gb542]? = some (.cells #[.slice none 0 0, .bool false, .bool false, .int .i64 0] 27 (0, 0))) := ⟨h3_⟩
         have n4_ : Aside0 (w.heap.size ≤ gb542) := ⟨h4_⟩
         have n5_ : Aside0 (w.heap.size ≤ gb542) := ⟨h5_⟩
         have n6_ : Aside0 (gb531 ≠ gb542) := ⟨h6_⟩
         have n7_ : Aside0 (gb542 ≠ gb531) := ⟨h7_⟩
         have n8_ : Aside0 (Below w.heap.size w w22) := ⟨h8_⟩
         clear HO_532000
         clear BK531
         clear HB
         clear h0_ h1_ h2_ h3_ h4_ h5_ h6_ h7_ h8_
         have HO536 := n0_
         have HO_532000 := n1_
         have BK531 := n2_
         have BK542 := n3_
         have GW542 := n4_
         have GE542 := n5_
         have NB531_542 := n6_
         have NB542_531 := n7_
         have HB := n8_
         clear n0_ n1_ n2_ n3_ n4_ n5_ n6_ n7_ n8_
         have hHeld : w22.cell? ⟨gb531, 0, none⟩ = some (.slice Ao18 x532000_1.length co18) ∧ w22.cell? ⟨gb531, 1, none⟩ = some (.bool x532001_1) ∧ w22.cell? ⟨gb531, 2, none⟩ = some (.bool x532002_1) ∧ w22.cell? ⟨gb531, 3, none⟩ = some (.int .i64 x532003_1) ∧ w22.cell? (ad533.add ((x9_1).toNat * 6)) = some (.int .u8 ((rd_T37 l0 x9_1).f0)) ∧ w22.cell? ⟨(ad533.add ((x9_1).toNat * 6)).block, (ad533.add ((x9_1).toNat * 6)).off + 1, none⟩ = some (.int .u8 ((rd_T37 l0 x9_1).f1)) ∧ w22.cell? ⟨(ad533.add ((x9_1).toNat * 6)).block, (ad533.add ((x9_1).toNat * 6)).off + 2, none⟩ = some (.int .u8 ((rd_T37 l0 x9_1).f2)) ∧ w22.cell? ⟨(ad533.add ((x9_1).toNat * 6)).block, (ad533.add ((x9_1).toNat * 6)).off + 3, none⟩ = some (.int .u8 ((rd_T37 l0 x9_1).f3)) ∧ w22.cell? ⟨(ad533.add ((x9_1).toNat * 6)).block, (ad533.add ((x9_1).toNat * 6)).off + 4, none⟩ = some (.string ((rd_T37 l0 x9_1).f4)) ∧ w22.cell? ⟨(ad533.add ((x9_1).toNat * 6)).block, (ad533.add ((x9_1).toNat * 6)).off + 5, none⟩ = some (.string ((rd_T37 l0 x9_1).f5)) := hS_
         obtain ⟨Ao23, co23, eo23⟩ := Kd.V_slice HO536.out
         (first | subst eo23 | (injection eo23 with f1_ f2_ f3_; have f4_ := f1_.symm; have f5_ := f3_.symm; clear f1_ f2_ f3_; subst f4_; subst f5_))
         refine norm_ (a' := ?_) ?_ ?_
         rotate_left
         ·
          simp only [putAll, Act.put, List.setIfInBounds_toArray, List.set_cons_zero, List.set_cons_succ]
          rfl
         refine one_ (i := 11) (N := none) #[true, true, true, true, true, true, true, true, true, true, true, true, false, false] rfl rfl (one_of HT_.out (by kernel_rfl)) (by decide) (fun K hK => ?_)
         have hs24 : w22.cell? ⟨gb542, 0, none⟩ = some (.slice none 0 0) := (blk_cell BK542.out 0).trans rfl
         have hfs24 := blk_frozen BK542.out 0
         have hns24_0 := NB531_542.out
         have hms24_0 := NB542_531.out
         have hs25 : w22.cell? ⟨gb542, 1, none⟩ = some (.bool false) := (blk_cell BK542.out 1).trans rfl
         have hfs25 := blk_frozen BK542.out 1
         have hns25_0 := NB531_542.out
         have hms25_0 := NB542_531.out
         have hs26 : w22.cell? ⟨gb542, 2, none⟩ = some (.bool false) := (blk_cell BK542.out 2).trans rfl
         have hfs26 := blk_frozen BK542.out 2
         have hns26_0 := NB531_542.out
         have hms26_0 := NB542_531.out
         have hs27 : w22.cell? ⟨gb542, 3, none⟩ = some (.int .i64 0) := (blk_cell BK542.out 3).trans rfl
         have hfs27 := blk_frozen BK542.out 3
         have hns27_0 := NB531_542.out
         have hms27_0 := NB542_531.out
         refine skip_ (w1 := ?_) (by rfl) rfl ?_ ?_
         rotate_left
         ·
          go_simp
          rfl
         refine hK.out _ _ ⟨((cell_far (p := ⟨gb542, _, none⟩) NB531_542.out _).trans (((cell_far (p := ⟨gb542, _, none⟩) NB531_542.out _).trans (((cell_far (p := ⟨gb542, _, none⟩) NB531_542.out _).trans (((cell_far (p := ⟨gb542, _, none⟩) NB531_542.out _).trans (hHeld.1)))))))), ((cell_far (p := ⟨gb542, _, none⟩) NB531_542.out _).trans (((cell_far (p := ⟨gb542, _, none⟩) NB531_542.out _).trans (((cell_far (p := ⟨gb542, _, none⟩) NB531_542.out _).trans (((cell_far (p := ⟨gb542, _, none⟩) NB531_542.out _).trans (hHeld.2.1)))))))), ((cell_far (p := ⟨gb542, _, none⟩) NB531_542.out _).trans (((cell_far (p := ⟨gb542, _, none⟩) NB531_542.out _).trans (((cell_far (p := ⟨gb542, _, none⟩) NB531_542.out _).trans (((cell_far (p := ⟨gb542, _, none⟩) NB531_542.out _).trans (hHeld.2.2.1)))))))), ((cell_far (p := ⟨gb542, _, none⟩) NB531_542.out _).trans (((cell_far (p := ⟨gb542, _, none⟩) NB531_542.out _).trans (((cell_far (p := ⟨gb542, _, none⟩) NB531_542.out _).trans (((cell_far (p := ⟨gb542, _, none⟩) NB531_542.out _).trans (hHeld.2.2.2.1)))))))), ((cell_far (p := ⟨gb542, _, none⟩) (by first | exact Nat.ne_of_lt (Nat.lt_of_lt_of_le (by have := World.block_lt_of_cell? _ _ hw533_0; first | rwa [add_block] at this | exact this) GW542.out) | (rw [add_block]; exact Nat.ne_of_lt (Nat.lt_of_lt_of_le (by have := World.block_lt_of_cell? _ _ hw533_0; first | rwa [add_block] at this | exact this) GW542.out)) | (show (Addr.add _ _).block ≠ _; rw [add_block]; exact Nat.ne_of_lt (Nat.lt_of_lt_of_le (by have := World.block_lt_of_cell? _ _ hw533_0; first | rwa [add_block] at this | exact this) GW542.out)) | (dsimp only; exact Nat.ne_of_lt (Nat.lt_of_lt_of_le (by have := World.block_lt_of_cell? _ _ hw533_0; first | rwa [add_block] at this | exact this) GW542.out))) _).trans (((cell_far (p := ⟨gb542, _, none⟩) (by first | exact Nat.ne_of_lt (Nat.lt_of_lt_of_le (by have := World.block_lt_of_cell? _ _ hw533_0; first | rwa [add_block] at this | exact this) GW542.out) | (rw [add_block]; exact Nat.ne_of_lt (Nat.lt_of_lt_of_le (by have := World.block_lt_of_cell? _ _ hw533_0; first | rwa [add_block] at this | exact this) GW542.out)) | (show (Addr.add _ _).block ≠ _; rw [add_block]; exact Nat.ne_of_lt (Nat.lt_of_lt_of_le (by have := World.block_lt_of_cell? _ _ hw533_0; first | rwa [add_block] at this | exact this) GW542.out)) | (dsimp only; exact Nat.ne_of_lt (Nat.lt_of_lt_of_le (by have := World.block_lt_of_cell? _ _ hw533_0; first | rwa [add_block] at this | exact this) GW542.out))) _).trans (((cell_far (p := ⟨gb542, _, none⟩) (by first | exact Nat.ne_of_lt (Nat.lt_of_lt_of_le (by have := World.block_lt_of_cell? _ _ hw533_0; first | rwa [add_block] at this | exact this) GW542.out) | (rw [add_block]; exact Nat.ne_of_lt (Nat.lt_of_lt_of_le (by have := World.block_lt_of_cell? _ _ hw533_0; first | rwa [add_block] at this | exact this) GW542.out)) | (show (Addr.add _ _).block ≠ _; rw [add_block]; exact Nat.ne_of_lt (Nat.lt_of_lt_of_le (by have := World.block_lt_of_cell? _ _ hw533_0; first | rwa [add_block] at this | exact this) GW542.out)) | (dsimp only; exact Nat.ne_of_lt (Nat.lt_of_lt_of_le (by have := World.block_lt_of_cell? _ _ hw533_0; first | rwa [add_block] at this | exact this) GW542.out))) _).trans (((cell_far (p := ⟨gb542, _, none⟩) (by first | exact Nat.ne_of_lt (Nat.lt_of_lt_of_le (by have := World.block_lt_of_cell? _ _ hw533_0; first | rwa [add_block] at this | exact this) GW542.out) | (rw [add_block]; exact Nat.ne_of_lt (Nat.lt_of_lt_of_le (by have := World.block_lt_of_cell? _ _ hw533_0; first | rwa [add_block] at this | exact this) GW542.out)) | (show (Addr.add _ _).block ≠ _; rw [add_block]; exact Nat.ne_of_lt (Nat.lt_of_lt_of_le (by have := World.block_lt_of_cell? _ _ hw533_0; first | rwa [add_block] at this | exact this) GW542.out)) | (dsimp only; exact Nat.ne_of_lt (Nat.lt_of_lt_of_le (by have := World.block_lt_of_cell? _ _ hw533_0; first | rwa [add_block] at this | exact this) GW542.out))) _).trans (hHeld.2.2.2.2.1)))))))), ((cell_far (p := ⟨gb542, _, none⟩) (by first | exact Nat.ne_of_lt (Nat.lt_of_lt_of_le (by have := World.block_lt_of_cell? _ _ hw533_1; first | rwa [add_block] at this | exact this) GW542.out) | (rw [add_block]; exact Nat.ne_of_lt (Nat.lt_of_lt_of_le (by have := World.block_lt_of_cell? _ _ hw533_1; first | rwa [add_block] at this | exact this) GW542.out)) | (show (Addr.add _ _).block ≠ _; rw [add_block]; exact Nat.ne_of_lt (Nat.lt_of_lt_of_le (by have := World.block_lt_of_cell? _ _ hw533_1; first | rwa [add_block] at this | exact this) GW542.out)) | (dsimp only; exact Nat.ne_of_lt (Nat.lt_of_lt_of_le (by have := World.block_lt_of_cell? _ _ hw533_1; first | rwa [add_block] at this | exact this) GW542.out))) _).trans (((cell_far (p := ⟨gb542, _, none⟩) (by first | exact Nat.ne_of_lt (Nat.lt_of_lt_of_le (by have := World.block_lt_of_cell? _ _ hw533_1; first | rwa [add_block] at this | exact this) GW542.out) | (rw [add_block]; exact Nat.ne_of_lt (Nat.lt_of_lt_of_le (by have := World.block_lt_of_cell? _ _ hw533_1; first | rwa [add_block] at this | exact this) GW542.out)) | (show (Addr.add _ _).block ≠ _; rw [add_block]; exact Nat.ne_of_lt (Nat.lt_of_lt_of_le (by have := World.block_lt_of_cell? _ _ hw533_1; first | rwa [add_block] at this | exact this) GW542.out)) | (dsimp only; exact Nat.ne_of_lt (Nat.lt_of_lt_of_le (by have := World.block_lt_of_cell? _ _ hw533_1; first | rwa [add_block] at this | exact this) GW542.out))) _).trans (((cell_far (p := ⟨gb542, _, none⟩) (by first | exact Nat.ne_of_lt (Nat.lt_of_lt_of_le (by have := World.block_lt_of_cell? _ _ hw533_1; first | rwa [add_block] at this | exact this) GW542.out) | (rw [add_block]; exact Nat.ne_of_lt (Nat.lt_of_lt_of_le (by have := World.block_lt_of_cell? _ _ hw533_1; first | rwa [add_block] at this | exact this) GW542.out)) | (show (Addr.add _ _).block ≠ _; rw [add_block]; exact Nat.ne_of_lt (Nat.lt_of_lt_of_le (by have := World.block_lt_of_cell? _ _ hw533_1; first | rwa [add_block] at this | exact this) GW542.out)) | (dsimp only; exact Nat.ne_of_lt (Nat.lt_of_lt_of_le (by have := World.block_lt_of_cell? _ _ hw533_1; first | rwa [add_block] at this | exact this) GW542.out))) _).trans (((cell_far (p := ⟨gb542, _, none⟩) (by first | exact Nat.ne_of_lt (Nat.lt_of_lt_of_le (by have := World.block_lt_of_cell? _ _ hw533_1; first | rwa [add_block] at this | exact this) GW542.out) | (rw [add_block]; exact Nat.ne_of_lt (Nat.lt_of_lt_of_le (by have := World.block_lt_of_cell? _ _ hw533_1; first | rwa [add_block] at this | exact this) GW542.out)) | (show (Addr.add _ _).block ≠ _; rw [add_block]; exact Nat.ne_of_lt (Nat.lt_of_lt_of_le (by have := World.block_lt_of_cell? _ _ hw533_1; first | rwa [add_block] at this | exact this) GW542.out)) | (dsimp only; exact Nat.ne_of_lt (Nat.lt_of_lt_of_le (by have := World.block_lt_of_cell? _ _ hw533_1; first | rwa [add_block] at this | exact this) GW542.out))) _).trans (hHeld.2.2.2.2.2.1)))))))), ((cell_far (p := ⟨gb542, _, none⟩) (by first | exact Nat.ne_of_lt (Nat.lt_of_lt_of_le (by have := World.block_lt_of_cell? _ _ hw533_2; first | rwa [add_block] at this | exact this) GW542.out) | (rw [add_block]; exact Nat.ne_of_lt (Nat.lt_of_lt_of_le (by have := World.block_lt_of_cell? _ _ hw533_2; first | rwa [add_block] at this | exact this) GW542.out)) | (show (Addr.add _ _).block ≠ _; rw [add_block]; exact Nat.ne_of_lt (Nat.lt_of_lt_of_le (by have := World.block_lt_of_cell? _ _ hw533_2; first | rwa [add_block] at this | exact this) GW542.out)) | (dsimp only; exact Nat.ne_of_lt (Nat.lt_of_lt_of_le (by have := World.block_lt_of_cell? _ _ hw533_2; first | rwa [add_block] at this | exact this) GW542.out))) _).trans (((cell_far (p := ⟨gb542, _, none⟩) (by first | exact Nat.ne_of_lt (Nat.lt_of_lt_of_le (by have := World.block_lt_of_cell? _ _ hw533_2; first | rwa [add_block] at this | exact this) GW542.out) | (rw [add_block]; exact Nat.ne_of_lt (Nat.lt_of_lt_of_le (by have := World.block_lt_of_cell? _ _ hw533_2; first | rwa [add_block] at this | exact this) GW542.out)) | (show (Addr.add _ _).block ≠ _; rw [add_block]; exact Nat.ne_of_lt (Nat.lt_of_lt_of_le (by have := World.block_lt_of_cell? _ _ hw533_2; first | rwa [add_block] at this | exact this) GW542.out)) | (dsimp only; exact Nat.ne_of_lt (Nat.lt_of_lt_of_le (by have := World.block_lt_of_cell? _ _ hw533_2; first | rwa [add_block] at this | exact this) GW542.out))) _).trans (((cell_far (p := ⟨gb542, _, none⟩) (by first | exact Nat.ne_of_lt (Nat.lt_of_lt_of_le (by have := World.block_lt_of_cell? _ _ hw533_2; first | rwa [add_block] at this | exact this) GW542.out) | (rw [add_block]; exact Nat.ne_of_lt (Nat.lt_of_lt_of_le (by have := World.block_lt_of_cell? _ _ hw533_2; first | rwa [add_block] at this | exact this) GW542.out)) | (show (Addr.add _ _).block ≠ _; rw [add_block]; exact Nat.ne_of_lt (Nat.lt_of_lt_of_le (by have := World.block_lt_of_cell? _ _ hw533_2; first | rwa [add_block] at this | exact this) GW542.out)) | (dsimp only; exact Nat.ne_of_lt (Nat.lt_of_lt_of_le (by have := World.block_lt_of_cell? _ _ hw533_2; first | rwa [add_block] at this | exact this) GW542.out))) _).trans (((cell_far (p := ⟨gb542, _, none⟩) (by first | exact Nat.ne_of_lt (Nat.lt_of_lt_of_le (by have := World.block_lt_of_cell? _ _ hw533_2; first | rwa [add_block] at this | exact this) GW542.out) | (rw [add_block]; exact Nat.ne_of_lt (Nat.lt_of_lt_of_le (by have := World.block_lt_of_cell? _ _ hw533_2; first | rwa [add_block] at this | exact this) GW542.out)) | (show (Addr.add _ _).block ≠ _; rw [add_block]; exact Nat.ne_of_lt (Nat.lt_of_lt_of_le (by have := World.block_lt_of_cell? _ _ hw533_2; first | rwa [add_block] at this | exact this) GW542.out)) | (dsimp only; exact Nat.ne_of_lt (Nat.lt_of_lt_of_le (by have := World.block_lt_of_cell? _ _ hw533_2; first | rwa [add_block] at this | exact this) GW542.out))) _).trans (hHeld.2.2.2.2.2.2.1)))))))), ((cell_far (p := ⟨gb542, _, none⟩) (by first | exact Nat.ne_of_lt (Nat.lt_of_lt_of_le (by have := World.block_lt_of_cell? _ _ hw533_3; first | rwa [add_block] at this | exact this) GW542.out) | (rw [add_block]; exact Nat.ne_of_lt (Nat.lt_of_lt_of_le (by have := World.block_lt_of_cell? _ _ hw533_3; first | rwa [add_block] at this | exact this) GW542.out)) | (show (Addr.add _ _).block ≠ _; rw [add_block]; exact Nat.ne_of_lt (Nat.lt_of_lt_of_le (by have := World.block_lt_of_cell? _ _ hw533_3; first | rwa [add_block] at this | exact this) GW542.out)) | (dsimp only; exact Nat.ne_of_lt (Nat.lt_of_lt_of_le (by have := World.block_lt_of_cell? _ _ hw533_3; first | rwa [add_block] at this | exact this) GW542.out))) _).trans (((cell_far (p := ⟨gb542, _, none⟩) (by first | exact Nat.ne_of_lt (Nat.lt_of_lt_of_le (by have := World.block_lt_of_cell? _ _ hw533_3; first | rwa [add_block] at this | exact this) GW542.out) | (rw [add_block]; exact Nat.ne_of_lt (Nat.lt_of_lt_of_le (by have := World.block_lt_of_cell? _ _ hw533_3; first | rwa [add_block] at this | exact this) GW542.out)) | (show (Addr.add _ _).block ≠ _; rw [add_block]; exact Nat.ne_of_lt (Nat.lt_of_lt_of_le (by have := World.block_lt_of_cell? _ _ hw533_3; first | rwa [add_block] at this | exact this) GW542.out)) | (dsimp only; exact Nat.ne_of_lt (Nat.lt_of_lt_of_le (by have := World.block_lt_of_cell? _ _ hw533_3; first | rwa [add_block] at this | exact this) GW542.out))) _).trans (((cell_far (p := ⟨gb542, _, none⟩) (by first | exact Nat.ne_of_lt (Nat.lt_of_lt_of_le (by have := World.block_lt_of_cell? _ _ hw533_3; first | rwa [add_block] at this | exact this) GW542.out) | (rw [add_block]; exact Nat.ne_of_lt (Nat.lt_of_lt_of_le (by have := World.block_lt_of_cell? _ _ hw533_3; first | rwa [add_block] at this | exact this) GW542.out)) | (show (Addr.add _ _).block ≠ _; rw [add_block]; exact Nat.ne_of_lt (Nat.lt_of_lt_of_le (by have := World.block_lt_of_cell? _ _ hw533_3; first | rwa [add_block] at this | exact this) GW542.out)) | (dsimp only; exact Nat.ne_of_lt (Nat.lt_of_lt_of_le (by have := World.block_lt_of_cell? _ _ hw533_3; first | rwa [add_block] at this | exact this) GW542.out))) _).trans (((cell_far (p := ⟨gb542, _, none⟩) (by first | exact Nat.ne_of_lt (Nat.lt_of_lt_of_le (by have := World.block_lt_of_cell? _ _ hw533_3; first | rwa [add_block] at this | exact this) GW542.out) | (rw [add_block]; exact Nat.ne_of_lt (Nat.lt_of_lt_of_le (by have := World.block_lt_of_cell? _ _ hw533_3; first | rwa [add_block] at this | exact this) GW542.out)) | (show (Addr.add _ _).block ≠ _; rw [add_block]; exact Nat.ne_of_lt (Nat.lt_of_lt_of_le (by have := World.block_lt_of_cell? _ _ hw533_3; first | rwa [add_block] at this | exact this) GW542.out)) | (dsimp only; exact Nat.ne_of_lt (Nat.lt_of_lt_of_le (by have := World.block_lt_of_cell? _ _ hw533_3; first | rwa [add_block] at this | exact this) GW542.out))) _).trans (hHeld.2.2.2.2.2.2.2.1)))))))), ((cell_far (p := ⟨gb542, _, none⟩) (by first | exact Nat.ne_of_lt (Nat.lt_of_lt_of_le (by have := World.block_lt_of_cell? _ _ hw533_4; first | rwa [add_block] at this | exact this) GW542.out) | (rw [add_block]; exact Nat.ne_of_lt (Nat.lt_of_lt_of_le (by have := World.block_lt_of_cell? _ _ hw533_4; first | rwa [add_block] at this | exact this) GW542.out)) | (show (Addr.add _ _).block ≠ _; rw [add_block]; exact Nat.ne_of_lt (Nat.lt_of_lt_of_le (by have := World.block_lt_of_cell? _ _ hw533_4; first | rwa [add_block] at this | exact this) GW542.out)) | (dsimp only; exact Nat.ne_of_lt (Nat.lt_of_lt_of_le (by have := World.block_lt_of_cell? _ _ hw533_4; first | rwa [add_block] at this | exact this) GW542.out))) _).trans (((cell_far (p := ⟨gb542, _, none⟩) (by first | exact Nat.ne_of_lt (Nat.lt_of_lt_of_le (by have := World.block_lt_of_cell? _ _ hw533_4; first | rwa [add_block] at this | exact this) GW542.out) | (rw [add_block]; exact Nat.ne_of_lt (Nat.lt_of_lt_of_le (by have := World.block_lt_of_cell? _ _ hw533_4; first | rwa [add_block] at this | exact this) GW542.out)) | (show (Addr.add _ _).block ≠ _; rw [add_block]; exact Nat.ne_of_lt (Nat.lt_of_lt_of_le (by have := World.block_lt_of_cell? _ _ hw533_4; first | rwa [add_block] at this | exact this) GW542.out)) | (dsimp only; exact Nat.ne_of_lt (Nat.lt_of_lt_of_le (by have := World.block_lt_of_cell? _ _ hw533_4; first | rwa [add_block] at this | exact this) GW542.out))) _).trans (((cell_far (p := ⟨gb542, _, none⟩) (by first | exact Nat.ne_of_lt (Nat.lt_of_lt_of_le (by have := World.block_lt_of_cell? _ _ hw533_4; first | rwa [add_block] at this | exact this) GW542.out) | (rw [add_block]; exact Nat.ne_of_lt (Nat.lt_of_lt_of_le (by have := World.block_lt_of_cell? _ _ hw533_4; first | rwa [add_block] at this | exact this) GW542.out)) | (show (Addr.add _ _).block ≠ _; rw [add_block]; exact Nat.ne_of_lt (Nat.lt_of_lt_of_le (by have := World.block_lt_of_cell? _ _ hw533_4; first | rwa [add_block] at this | exact this) GW542.out)) | (dsimp only; exact Nat.ne_of_lt (Nat.lt_of_lt_of_le (by have := World.block_lt_of_cell? _ _ hw533_4; first | rwa [add_block] at this | exact this) GW542.out))) _).trans (((cell_far (p := ⟨gb542, _, none⟩) (by first | exact Nat.ne_of_lt (Nat.lt_of_lt_of_le (by have := World.block_lt_of_cell? _ _ hw533_4; first | rwa [add_block] at this | exact this) GW542.out) | (rw [add_block]; exact Nat.ne_of_lt (Nat.lt_of_lt_of_le (by have := World.block_lt_of_cell? _ _ hw533_4; first | rwa [add_block] at this | exact this) GW542.out)) | (show (Addr.add _ _).block ≠ _; rw [add_block]; exact Nat.ne_of_lt (Nat.lt_of_lt_of_le (by have := World.block_lt_of_cell? _ _ hw533_4; first | rwa [add_block] at this | exact this) GW542.out)) | (dsimp only; exact Nat.ne_of_lt (Nat.lt_of_lt_of_le (by have := World.block_lt_of_cell? _ _ hw533_4; first | rwa [add_block] at this | exact this) GW542.out))) _).trans (hHeld.2.2.2.2.2.2.2.2.1)))))))), ((cell_far (p := ⟨gb542, _, none⟩) (by first | exact Nat.ne_of_lt (Nat.lt_of_lt_of_le (by have := World.block_lt_of_cell? _ _ hw533_5; first | rwa [add_block] at this | exact this) GW542.out) | (rw [add_block]; exact Nat.ne_of_lt (Nat.lt_of_lt_of_le (by have := World.block_lt_of_cell? _ _ hw533_5; first | rwa [add_block] at this | exact this) GW542.out)) | (show (Addr.add _ _).block ≠ _; rw [add_block]; exact Nat.ne_of_lt (Nat.lt_of_lt_of_le (by have := World.block_lt_of_cell? _ _ hw533_5; first | rwa [add_block] at this | exact this) GW542.out)) | (dsimp only; exact Nat.ne_of_lt (Nat.lt_of_lt_of_le (by have := World.block_lt_of_cell? _ _ hw533_5; first | rwa [add_block] at this | exact this) GW542.out))) _).trans (((cell_far (p := ⟨gb542, _, none⟩) (by first | exact Nat.ne_of_lt (Nat.lt_of_lt_of_le (by have := World.block_lt_of_cell? _ _ hw533_5; first | rwa [add_block] at this | exact this) GW542.out) | (rw [add_block]; exact Nat.ne_of_lt (Nat.lt_of_lt_of_le (by have := World.block_lt_of_cell? _ _ hw533_5; first | rwa [add_block] at this | exact this) GW542.out)) | (show (Addr.add _ _).block ≠ _; rw [add_block]; exact Nat.ne_of_lt (Nat.lt_of_lt_of_le (by have := World.block_lt_of_cell? _ _ hw533_5; first | rwa [add_block] at this | exact this) GW542.out)) | (dsimp only; exact Nat.ne_of_lt (Nat.lt_of_lt_of_le (by have := World.block_lt_of_cell? _ _ hw533_5; first | rwa [add_block] at this | exact this) GW542.out))) _).trans (((cell_far (p := ⟨gb542, _, none⟩) (by first | exact Nat.ne_of_lt (Nat.lt_of_lt_of_le (by have := World.block_lt_of_cell? _ _ hw533_5; first | rwa [add_block] at this | exact this) GW542.out) | (rw [add_block]; exact Nat.ne_of_lt (Nat.lt_of_lt_of_le (by have := World.block_lt_of_cell? _ _ hw533_5; first | rwa [add_block] at this | exact this) GW542.out)) | (show (Addr.add _ _).block ≠ _; rw [add_block]; exact Nat.ne_of_lt (Nat.lt_of_lt_of_le (by have := World.block_lt_of_cell? _ _ hw533_5; first | rwa [add_block] at this | exact this) GW542.out)) | (dsimp only; exact Nat.ne_of_lt (Nat.lt_of_lt_of_le (by have := World.block_lt_of_cell? _ _ hw533_5; first | rwa [add_block] at this | exact this) GW542.out))) _).trans (((cell_far (p := ⟨gb542, _, none⟩) (by first | exact Nat.ne_of_lt (Nat.lt_of_lt_of_le (by have := World.block_lt_of_cell? _ _ hw533_5; first | rwa [add_block] at this | exact this) GW542.out) | (rw [add_block]; exact Nat.ne_of_lt (Nat.lt_of_lt_of_le (by have := World.block_lt_of_cell? _ _ hw533_5; first | rwa [add_block] at this | exact this) GW542.out)) | (show (Addr.add _ _).block ≠ _; rw [add_block]; exact Nat.ne_of_lt (Nat.lt_of_lt_of_le (by have := World.block_lt_of_cell? _ _ hw533_5; first | rwa [add_block] at this | exact this) GW542.out)) | (dsimp only; exact Nat.ne_of_lt (Nat.lt_of_lt_of_le (by have := World.block_lt_of_cell? _ _ hw533_5; first | rwa [add_block] at this | exact this) GW542.out))) _).trans (hHeld.2.2.2.2.2.2.2.2.2))))))))⟩ (fun hHeld => ?_)
         clear hK K
         refine pure_ (i := 12) (N := some 11) (v := ?_) (a' := ?_) #[true, true, true, true, true, true, true, true, true, true, true, true, true, false] rfl rfl (any_of HT_.out (by kernel_rfl)) (fun _ _ _ h => h) (Or.inl ⟨by rfl, ?_⟩) ?_ ?_
         rotate_left
         ·
          intro w'
          go_simp
          with_reducible rfl
         rotate_left
         ·
          simp only [Act.put, List.setIfInBounds_toArray, List.set_cons_zero, List.set_cons_succ, i64_w, i32_w]
          rfl
         refine pure_ (i := 13) (N := some 12) (v := ?_) (a' := ?_) #[true, true, true, true, true, true, true, true, true, true, true, true, true, true] rfl rfl (any_of HT_.out (by kernel_rfl)) (fun _ _ _ h => h) (Or.inl ⟨by rfl, ?_⟩) ?_ ?_
         rotate_left
         ·
          intro w'
          go_simp
          with_reducible rfl
         rotate_left
         ·
          simp only [Act.put, List.setIfInBounds_toArray, List.set_cons_zero, List.set_cons_succ, i64_w, i32_w]
          rfl
         refine done_ (done_of HT_.out (by kernel_rfl)) ?_
         try go_wp2
         have n0_ : Aside0 (Kd.V k44 44 ((((w22.setCell ⟨gb542, 0, none⟩ (.slice Ao23 t534.length co23)).setCell ⟨gb542, 1, none⟩ (.bool t537)).setCell ⟨gb542, 2, none⟩ (.bool t538)).setCell ⟨gb542, 3, none⟩ (.int .i64 t539)) w.heap.size (fun k_ => k_ ≠ gb531 ∧ k_ ≠ gb542) (.slice Ao18 x532000_1.length co18) x532000_1) := ⟨by (with_reducible repeat (first | apply Kd.V_alloc | apply Kd.V_drewN | apply Kd.V_drew)); exact Kd.V_mono (Kd.V_far (p := ⟨gb542, 3, none⟩) (Kd.V_far (p := ⟨gb542, 2, none⟩) (Kd.V_far (p := ⟨gb542, 1, none⟩) (Kd.V_far (p := ⟨gb542, 0, none⟩) (Kd.V_mono HO_532000.out (fun k_ hk => (⟨hk, hk.2⟩ : _ ∧ k_ ≠ gb542))) (fun _ hk => hk.2) _) (fun _ hk => hk.2) (.bool t537)) (fun _ hk => hk.2) (.bool t538)) (fun _ hk => hk.2) _) (fun _ hk => ⟨hk.1.1, hk.1.2⟩)⟩
         have n1_ : Aside0 (Kd.V k44 44 ((((w22.setCell ⟨gb542, 0, none⟩ (.slice Ao23 t534.length co23)).setCell ⟨gb542, 1, none⟩ (.bool t537)).setCell ⟨gb542, 2, none⟩ (.bool t538)).setCell ⟨gb542, 3, none⟩ (.int .i64 t539)) w.heap.size (fun k_ => k_ ≠ gb531 ∧ k_ ≠ gb542) (.slice Ao23 t534.length co23) t534) := ⟨by (with_reducible repeat (first | apply Kd.V_alloc | apply Kd.V_drewN | apply Kd.V_drew)); exact Kd.V_mono (Kd.V_far (p := ⟨gb542, 3, none⟩) (Kd.V_far (p := ⟨gb542, 2, none⟩) (Kd.V_far (p := ⟨gb542, 1, none⟩) (Kd.V_far (p := ⟨gb542, 0, none⟩) (Kd.V_mono HO536.out (fun k_ hk => (⟨hk, hk.2⟩ : _ ∧ k_ ≠ gb542))) (fun _ hk => hk.2) _) (fun _ hk => hk.2) (.bool t537)) (fun _ hk => hk.2) (.bool t538)) (fun _ hk => hk.2) _) (fun _ hk => ⟨hk.1.1, hk.1.2⟩)⟩
         have n2_ : Aside0 (((((w22.setCell ⟨gb542, 0, none⟩ (.slice Ao23 t534.length co23)).setCell ⟨gb542, 1, none⟩ (.bool t537)).setCell ⟨gb542, 2, none⟩ (.bool t538)).setCell ⟨gb542, 3, none⟩ (.int .i64 t539)).heap[gb531]? = some (.cells #[.slice Ao18 x532000_1.length co18, .bool x532001_1, .bool x532002_1, .int .i64 x532003_1] 27 (0, 0))) := ⟨by (with_reducible repeat (first | apply blk_drewN | apply blk_drew | apply blk_alloc)); refine blk_far ?_ NB531_542.out _; (with_reducible repeat (first | apply blk_drewN | apply blk_drew | apply blk_alloc)); refine blk_far ?_ NB531_542.out _; (with_reducible repeat (first | apply blk_drewN | apply blk_drew | apply blk_alloc)); refine blk_far ?_ NB531_542.out _; (with_reducible repeat (first | apply blk_drewN | apply blk_drew | apply blk_alloc)); refine blk_far ?_ NB531_542.out _; (with_reducible repeat (first | apply blk_drewN | apply blk_drew | apply blk_alloc)); exact BK531.out⟩
         have n3_ : Aside0 (((((w22.setCell ⟨gb542, 0, none⟩ (.slice Ao23 t534.length co23)).setCell ⟨gb542, 1, none⟩ (.bool t537)).setCell ⟨gb542, 2, none⟩ (.bool t538)).setCell ⟨gb542, 3, none⟩ (.int .i64 t539)).heap[gb542]? = some (.cells #[.slice Ao23 t534.length co23, .bool t537, .bool t538, .int .i64 t539] 27 (0, 0))) := ⟨by (with_reducible repeat (first | apply blk_drewN | apply blk_drew | apply blk_alloc)); refine blk_put (cs := #[.slice Ao23 t534.length co23, .bool t537, .bool t538, .int .i64 0]) ?_ 3 _ rfl; (with_reducible repeat (first | apply blk_drewN | apply blk_drew | apply blk_alloc)); refine blk_put (cs := #[.slice Ao23 t534.length co23, .bool t537, .bool false, .int .i64 0]) ?_ 2 _ rfl; (with_reducible repeat (first | apply blk_drewN | apply blk_drew | apply blk_alloc)); refine blk_put (cs := #[.slice Ao23 t534.length co23, .bool false, .bool false, .int .i64 0]) ?_ 1 _ rfl; (with_reducible repeat (first | apply blk_drewN | apply blk_drew | apply blk_alloc)); refine blk_put (cs := #[.slice none 0 0, .bool false, .bool false, .int .i64 0]) ?_ 0 _ rfl; (with_reducible repeat (first | apply blk_drewN | apply blk_drew | apply blk_alloc)); exact BK542.out⟩
         have n4_ : Aside0 (Below w.heap.size w ((((w22.setCell ⟨gb542, 0, none⟩ (.slice Ao23 t534.length co23)).setCell ⟨gb542, 1, none⟩ (.bool t537)).setCell ⟨gb542, 2, none⟩ (.bool t538)).setCell ⟨gb542, 3, none⟩ (.int .i64 t539))) := ⟨by repeat (first | (with_reducible first | exact HB.out | apply below_alloc | apply pw_below_drewN | apply below_drew1 | refine below_set ?_ GE531.out | refine below_set ?_ GE542.out) | exact HB.out)⟩
         (try clear HO_532000)
         (try clear HO536)
         (try clear BK531)
         (try clear BK542)
         (try clear HB)
         generalize ((((w22.setCell ⟨gb542, 0, none⟩ (.slice Ao23 t534.length co23)).setCell ⟨gb542, 1, none⟩ (.bool t537)).setCell ⟨gb542, 2, none⟩ (.bool t538)).setCell ⟨gb542, 3, none⟩ (.int .i64 t539)) = w28 at n0_ n1_ n2_ n3_ n4_ ⊢
         have HO_532000 := n0_
         have HO536 := n1_
         have BK531 := n2_
         have BK542 := n3_
         have HB := n4_
         clear n0_ n1_ n2_ n3_ n4_
         have n0_ := Aside0.mk (Kd.V_drew HO_532000.out)
         have n1_ := Aside0.mk (Kd.V_drew HO536.out)
         have n2_ := Aside0.mk (blk_drew BK531.out)
         have n3_ := Aside0.mk (blk_drew BK542.out)
         have n4_ := Aside0.mk (below_drew1 HB.out)
         clear HO_532000
         clear HO536
         clear BK531
         clear BK542
         clear HB
         have HO_532000 := n0_
         have HO536 := n1_
         have BK531 := n2_
         have BK542 := n3_
         have HB := n4_
         clear n0_ n1_ n2_ n3_ n4_
         have p543 : 0 ≤ (x9_1 : Int) := of_decide_eq_true (by first | (with_reducible assumption) | assumption)
         have q543 : x9_1 < (l0.length : Int) := of_decide_eq_true (by first | (with_reducible assumption) | assumption)
         obtain ⟨ad543, e543, hx543_0, hx543_1, hx543_2, hx543_3, hx543_4, hx543_5⟩ := at_T37 HR0.out x9_1 p543 q543
         have hw543_5 := hx543_5
         have hw543_4 := hx543_4
         have hw543_3 := hx543_3
         have hw543_2 := hx543_2
         have hw543_1 := hx543_1
         have hw543_0 := hx543_0
         obtain rfl : ad533 = ad543 := (by injection e543)
         replace hx543_0 := (HB.out.cell (World.block_lt_of_cell? w _ hx543_0)).trans hx543_0
         replace hx543_1 := (HB.out.cell (World.block_lt_of_cell? w _ hx543_1)).trans hx543_1
         replace hx543_2 := (HB.out.cell (World.block_lt_of_cell? w _ hx543_2)).trans hx543_2
         replace hx543_3 := (HB.out.cell (World.block_lt_of_cell? w _ hx543_3)).trans hx543_3
         replace hx543_4 := (HB.out.cell (World.block_lt_of_cell? w _ hx543_4)).trans hx543_4
         replace hx543_5 := (HB.out.cell (World.block_lt_of_cell? w _ hx543_5)).trans hx543_5
         replace p543 := eq_true p543
         replace q543 := eq_true q543
         have p544 : 0 ≤ (x9_1 : Int) := of_decide_eq_true (by first | (with_reducible assumption) | assumption)
         have q544 : x9_1 < (l0.length : Int) := of_decide_eq_true (by first | (with_reducible assumption) | assumption)
         obtain ⟨ad544, e544, hx544_0, hx544_1, hx544_2, hx544_3, hx544_4, hx544_5⟩ := at_T37 HR0.out x9_1 p544 q544
         have hw544_5 := hx544_5
         have hw544_4 := hx544_4
         have hw544_3 := hx544_3
         have hw544_2 := hx544_2
         have hw544_1 := hx544_1
         have hw544_0 := hx544_0
         obtain rfl : ad533 = ad544 := (by injection e544)
         replace hx544_0 := (HB.out.cell (World.block_lt_of_cell? w _ hx544_0)).trans hx544_0
         replace hx544_1 := (HB.out.cell (World.block_lt_of_cell? w _ hx544_1)).trans hx544_1
         replace hx544_2 := (HB.out.cell (World.block_lt_of_cell? w _ hx544_2)).trans hx544_2
         replace hx544_3 := (HB.out.cell (World.block_lt_of_cell? w _ hx544_3)).trans hx544_3
         replace hx544_4 := (HB.out.cell (World.block_lt_of_cell? w _ hx544_4)).trans hx544_4
         replace hx544_5 := (HB.out.cell (World.block_lt_of_cell? w _ hx544_5)).trans hx544_5
         replace p544 := eq_true p544
         replace q544 := eq_true q544
         have p545 : 0 ≤ (x9_1 : Int) := of_decide_eq_true (by first | (with_reducible assumption) | assumption)
         have q545 : x9_1 < (l0.length : Int) := of_decide_eq_true (by first | (with_reducible assumption) | assumption)
         obtain ⟨ad545, e545, hx545_0, hx545_1, hx545_2, hx545_3, hx545_4, hx545_5⟩ := at_T37 HR0.out x9_1 p545 q545
         have hw545_5 := hx545_5
         have hw545_4 := hx545_4
         have hw545_3 := hx545_3
         have hw545_2 := hx545_2
         have hw545_1 := hx545_1
         have hw545_0 := hx545_0
         obtain rfl : ad533 = ad545 := (by injection e545)
         replace hx545_0 := (HB.out.cell (World.block_lt_of_cell? w _ hx545_0)).trans hx545_0
         replace hx545_1 := (HB.out.cell (World.block_lt_of_cell? w _ hx545_1)).trans hx545_1
         replace hx545_2 := (HB.out.cell (World.block_lt_of_cell? w _ hx545_2)).trans hx545_2
         replace hx545_3 := (HB.out.cell (World.block_lt_of_cell? w _ hx545_3)).trans hx545_3
         replace hx545_4 := (HB.out.cell (World.block_lt_of_cell? w _ hx545_4)).trans hx545_4
         replace hx545_5 := (HB.out.cell (World.block_lt_of_cell? w _ hx545_5)).trans hx545_5
         replace p545 := eq_true p545
         replace q545 := eq_true q545
         refine start_ (n := 21) (S := fun w' => w'.cell? ⟨gb531, 0, none⟩ = some (.slice Ao18 x532000_1.length co18) ∧ w'.cell? ⟨gb531, 1, none⟩ = some (.bool x532001_1) ∧ w'.cell? ⟨gb531, 2, none⟩ = some (.bool x532002_1) ∧ w'.cell? ⟨gb531, 3, none⟩ = some (.int .i64 x532003_1) ∧ w'.cell? (ad533.add ((x9_1).toNat * 6)) = some (.int .u8 ((rd_T37 l0 x9_1).f0)) ∧ w'.cell? ⟨(ad533.add ((x9_1).toNat * 6)).block, (ad533.add ((x9_1).toNat * 6)).off + 1, none⟩ = some (.int .u8 ((rd_T37 l0 x9_1).f1)) ∧ w'.cell? ⟨(ad533.add ((x9_1).toNat * 6)).block, (ad533.add ((x9_1).toNat * 6)).off + 2, none⟩ = some (.int .u8 ((rd_T37 l0 x9_1).f2)) ∧ w'.cell? ⟨(ad533.add ((x9_1).toNat * 6)).block, (ad533.add ((x9_1).toNat * 6)).off + 3, none⟩ = some (.int .u8 ((rd_T37 l0 x9_1).f3)) ∧ w'.cell? ⟨(ad533.add ((x9_1).toNat * 6)).block, (ad533.add ((x9_1).toNat * 6)).off + 4, none⟩ = some (.string ((rd_T37 l0 x9_1).f4)) ∧ w'.cell? ⟨(ad533.add ((x9_1).toNat * 6)).block, (ad533.add ((x9_1).toNat * 6)).off + 5, none⟩ = some (.string ((rd_T37 l0 x9_1).f5)) ∧ w'.cell? (ad533.add ((x9_1).toNat * 6)) = some (.int .u8 ((rd_T37 l0 x9_1).f0)) ∧ w'.cell? ⟨(ad533.add ((x9_1).toNat * 6)).block, (ad533.add ((x9_1).toNat * 6)).off + 1, none⟩ = some (.int .u8 ((rd_T37 l0 x9_1).f1)) ∧ w'.cell? ⟨(ad533.add ((x9_1).toNat * 6)).block, (ad533.add ((x9_1).toNat * 6)).off + 2, none⟩ = some (.int .u8 ((rd_T37 l0 x9_1).f2)) ∧ w'.cell? ⟨(ad533.add ((x9_1).toNat * 6)).block, (ad533.add ((x9_1).toNat * 6)).off + 3, none⟩ = some (.int .u8 ((rd_T37 l0 x9_1).f3)) ∧ w'.cell? ⟨(ad533.add ((x9_1).toNat * 6)).block, (ad533.add ((x9_1).toNat * 6)).off + 4, none⟩ = some (.string ((rd_T37 l0 x9_1).f4)) ∧ w'.cell? ⟨(ad533.add ((x9_1).toNat * 6)).block, (ad533.add ((x9_1).toNat * 6)).off + 5, none⟩ = some (.string ((rd_T37 l0 x9_1).f5)) ∧ w'.cell? (ad533.add ((x9_1).toNat * 6)) = some (.int .u8 ((rd_T37 l0 x9_1).f0)) ∧ w'.cell? ⟨(ad533.add ((x9_1).toNat * 6)).block, (ad533.add ((x9_1).toNat * 6)).off + 1, none⟩ = some (.int .u8 ((rd_T37 l0 x9_1).f1)) ∧ w'.cell? ⟨(ad533.add ((x9_1).toNat * 6)).block, (ad533.add ((x9_1).toNat * 6)).off + 2, none⟩ = some (.int .u8 ((rd_T37 l0 x9_1).f2)) ∧ w'.cell? ⟨(ad533.add ((x9_1).toNat * 6)).block, (ad533.add ((x9_1).toNat * 6)).off + 3, none⟩ = some (.int .u8 ((rd_T37 l0 x9_1).f3)) ∧ w'.cell? ⟨(ad533.add ((x9_1).toNat * 6)).block, (ad533.add ((x9_1).toNat * 6)).off + 4, none⟩ = some (.string ((rd_T37 l0 x9_1).f4)) ∧ w'.cell? ⟨(ad533.add ((x9_1).toNat * 6)).block, (ad533.add ((x9_1).toNat * 6)).off + 5, none⟩ = some (.string ((rd_T37 l0 x9_1).f5))) (ds := []) #[false, false, false, false, false, false, false, false, false, false, false, false, false, false, false, false, false, false, false, false, false] (by kernel_rfl) rfl rfl ⟨(blk_cell BK531.out 0).trans rfl, (blk_cell BK531.out 1).trans rfl, (blk_cell BK531.out 2).trans rfl, (blk_cell BK531.out 3).trans rfl, ((HB.out.cell (World.block_lt_of_cell? w _ hw543_0)).trans hw543_0), ((HB.out.cell (World.block_lt_of_cell? w _ hw543_1)).trans hw543_1), ((HB.out.cell (World.block_lt_of_cell? w _ hw543_2)).trans hw543_2), ((HB.out.cell (World.block_lt_of_cell? w _ hw543_3)).trans hw543_3), ((HB.out.cell (World.block_lt_of_cell? w _ hw543_4)).trans hw543_4), ((HB.out.cell (World.block_lt_of_cell? w _ hw543_5)).trans hw543_5), ((HB.out.cell (World.block_lt_of_cell? w _ hw544_0)).trans hw544_0), ((HB.out.cell (World.block_lt_of_cell? w _ hw544_1)).trans hw544_1), ((HB.out.cell (World.block_lt_of_cell? w _ hw544_2)).trans hw544_2), ((HB.out.cell (World.block_lt_of_cell? w _ hw544_3)).trans hw544_3), ((HB.out.cell (World.block_lt_of_cell? w _ hw544_4)).trans hw544_4), ((HB.out.cell (World.block_lt_of_cell? w _ hw544_5)).trans hw544_5), ((HB.out.cell (World.block_lt_of_cell? w _ hw545_0)).trans hw545_0), ((HB.out.cell (World.block_lt_of_cell? w _ hw545_1)).trans hw545_1), ((HB.out.cell (World.block_lt_of_cell? w _ hw545_2)).trans hw545_2), ((HB.out.cell (World.block_lt_of_cell? w _ hw545_3)).trans hw545_3), ((HB.out.cell (World.block_lt_of_cell? w _ hw545_4)).trans hw545_4), ((HB.out.cell (World.block_lt_of_cell? w _ hw545_5)).trans hw545_5)⟩ (fun hHeld => ?_); refine with_tabW clinkerlaw05_NandSteps.tab6 clinkerlaw05_NandSteps.bits6 (fun HT_ HW_ => ?_)
         generalize w28.drew = w29 at HO_532000 HO536 BK531 BK542 HB hx543_0 hx543_1 hx543_2 hx543_3 hx543_4 hx543_5 hx544_0 hx544_1 hx544_2 hx544_3 hx544_4 hx544_5 hx545_0 hx545_1 hx545_2 hx545_3 hx545_4 hx545_5 hHeld ⊢
         refine pure_ (i := 1) (N := some 46) (v := ?_) (a' := ?_) #[false, true, false, false, false, false, false, false, false, false, false, false, false, false, false, false, false, false, false, false, false] rfl rfl (any_of HT_.out (by kernel_rfl)) (fun _ _ _ h => h) (Or.inl ⟨by rfl, ?_⟩) ?_ ?_
         rotate_left
         ·
          intro w'
          go_simp
          with_reducible rfl
         rotate_left
         ·
          simp only [Act.put, List.setIfInBounds_toArray, List.set_cons_zero, List.set_cons_succ, i64_w, i32_w]
          rfl
         refine pure_ (i := 2) (N := some 47) (v := ?_) (a' := ?_) #[false, true, true, false, false, false, false, false, false, false, false, false, false, false, false, false, false, false, false, false, false] rfl rfl (any_of HT_.out (by kernel_rfl)) (fun _ _ _ h => h) (Or.inl ⟨by rfl, ?_⟩) ?_ ?_
         rotate_left
         ·
          intro w'
          go_simp
          with_reducible rfl
         rotate_left
         ·
          simp only [Act.put, List.setIfInBounds_toArray, List.set_cons_zero, List.set_cons_succ, i64_w, i32_w]
          rfl
         refine pure_ (i := 3) (N := some 48) (v := ?_) (a' := ?_) #[false, true, true, true, false, false, false, false, false, false, false, false, false, false, false, false, false, false, false, false, false] rfl rfl (any_of HT_.out (by kernel_rfl)) (fun _ _ _ h => h) (Or.inl ⟨by rfl, ?_⟩) ?_ ?_
         rotate_left
         ·
          intro w'
          go_simp
          with_reducible rfl
         rotate_left
         ·
          simp only [Act.put, List.setIfInBounds_toArray, List.set_cons_zero, List.set_cons_succ, i64_w, i32_w]
          rfl
         refine pure_ (i := 4) (N := some 49) (v := ?_) (a' := ?_) #[false, true, true, true, true, false, false, false, false, false, false, false, false, false, false, false, false, false, false, false, false] rfl rfl (any_of HT_.out (by kernel_rfl)) (fun _ _ _ h => h) (Or.inl ⟨by rfl, ?_⟩) ?_ ?_
         rotate_left
         ·
          intro w'
          go_simp
          with_reducible rfl
         rotate_left
         ·
          simp only [Act.put, List.setIfInBounds_toArray, List.set_cons_zero, List.set_cons_succ, i64_w, i32_w]
          rfl
         refine pure_ (i := 5) (N := some 50) (v := ?_) (a' := ?_) #[false, true, true, true, true, true, false, false, false, false, false, false, false, false, false, false, false, false, false, false, false] rfl rfl (any_of HT_.out (by kernel_rfl)) (fun _ _ _ h => h) (Or.inl ⟨by rfl, ?_⟩) ?_ ?_
         rotate_left
         ·
          intro w'
          go_simp
          with_reducible rfl
         rotate_left
         ·
          simp only [Act.put, List.setIfInBounds_toArray, List.set_cons_zero, List.set_cons_succ, i64_w, i32_w]
          rfl
         refine pure_ (i := 6) (N := some 51) (v := ?_) (a' := ?_) #[false, true, true, true, true, true, true, false, false, false, false, false, false, false, false, false, false, false, false, false, false] rfl rfl (any_of HT_.out (by kernel_rfl)) (fun _ _ _ h => h) (Or.inl ⟨by rfl, ?_⟩) ?_ ?_
         rotate_left
         ·
          intro w'
          go_simp
          with_reducible rfl
         rotate_left
         ·
          simp only [Act.put, List.setIfInBounds_toArray, List.set_cons_zero, List.set_cons_succ, i64_w, i32_w]
          rfl
         refine pure_ (i := 8) (N := some 53) (v := ?_) (a' := ?_) #[false, true, true, true, true, true, true, false, true, false, false, false, false, false, false, false, false, false, false, false, false] rfl rfl (any_of HT_.out (by kernel_rfl)) (fun _ _ _ h => h) (Or.inl ⟨by rfl, ?_⟩) ?_ ?_
         rotate_left
         ·
          intro w'
          go_simp
          with_reducible rfl
         rotate_left
         ·
          simp only [Act.put, List.setIfInBounds_toArray, List.set_cons_zero, List.set_cons_succ, i64_w, i32_w]
          rfl
         refine pure_ (i := 9) (N := some 54) (v := ?_) (a' := ?_) #[false, true, true, true, true, true, true, false, true, true, false, false, false, false, false, false, false, false, false, false, false] rfl rfl (any_of HT_.out (by kernel_rfl)) (fun _ _ _ h => h) (Or.inl ⟨by rfl, ?_⟩) ?_ ?_
         rotate_left
         ·
          intro w'
          go_simp
          with_reducible rfl
         rotate_left
         ·
          simp only [Act.put, List.setIfInBounds_toArray, List.set_cons_zero, List.set_cons_succ, i64_w, i32_w]
          rfl
         refine pure_ (i := 10) (N := some 55) (v := ?_) (a' := ?_) #[false, true, true, true, true, true, true, false, true, true, true, false, false, false, false, false, false, false, false, false, false] rfl rfl (any_of HT_.out (by kernel_rfl)) (fun _ _ _ h => h) (Or.inl ⟨by rfl, ?_⟩) ?_ ?_
         rotate_left
         ·
          intro w'
          go_simp
          with_reducible rfl
         rotate_left
         ·
          simp only [Act.put, List.setIfInBounds_toArray, List.set_cons_zero, List.set_cons_succ, i64_w, i32_w]
          rfl
         refine pure_ (i := 11) (N := some 56) (v := ?_) (a' := ?_) #[false, true, true, true, true, true, true, false, true, true, true, true, false, false, false, false, false, false, false, false, false] rfl rfl (any_of HT_.out (by kernel_rfl)) (fun _ _ _ h => h) (Or.inl ⟨by rfl, ?_⟩) ?_ ?_
         rotate_left
         ·
          intro w'
          go_simp
          with_reducible rfl
         rotate_left
         ·
          simp only [Act.put, List.setIfInBounds_toArray, List.set_cons_zero, List.set_cons_succ, i64_w, i32_w]
          rfl
         refine pure_ (i := 14) (N := some 59) (v := ?_) (a' := ?_) #[false, true, true, true, true, true, true, false, true, true, true, true, false, false, true, false, false, false, false, false, false] rfl rfl (any_of HT_.out (by kernel_rfl)) (fun _ _ _ h => h) (Or.inl ⟨by rfl, ?_⟩) ?_ ?_
         rotate_left
         ·
          intro w'
          go_simp
          with_reducible rfl
         rotate_left
         ·
          simp only [Act.put, List.setIfInBounds_toArray, List.set_cons_zero, List.set_cons_succ, i64_w, i32_w]
          rfl
         refine pure_ (i := 15) (N := some 60) (v := ?_) (a' := ?_) #[false, true, true, true, true, true, true, false, true, true, true, true, false, false, true, true, false, false, false, false, false] rfl rfl (any_of HT_.out (by kernel_rfl)) (fun _ _ _ h => h) (Or.inl ⟨by rfl, ?_⟩) ?_ ?_
         rotate_left
         ·
          intro w'
          go_simp
          with_reducible rfl
         rotate_left
         ·
          simp only [Act.put, List.setIfInBounds_toArray, List.set_cons_zero, List.set_cons_succ, i64_w, i32_w]
          rfl
         refine pure_ (i := 16) (N := some 61) (v := ?_) (a' := ?_) #[false, true, true, true, true, true, true, false, true, true, true, true, false, false, true, true, true, false, false, false, false] rfl rfl (any_of HT_.out (by kernel_rfl)) (fun _ _ _ h => h) (Or.inl ⟨by rfl, ?_⟩) ?_ ?_
         rotate_left
         ·
          intro w'
          go_simp
          with_reducible rfl
         rotate_left
         ·
          simp only [Act.put, List.setIfInBounds_toArray, List.set_cons_zero, List.set_cons_succ, i64_w, i32_w]
          rfl
         refine take_ (i := 0) (N := some 45) (v := ?_) (a' := ?_) #[true, true, true, true, true, true, true, false, true, true, true, true, false, false, true, true, true, false, false, false, false] rfl rfl (take_ofW HT_.out HW_.out (by kernel_rfl)) (fun _ _ _ h => h) (Or.inl ⟨by rfl, ?_⟩) hHeld ?_ ?_
         rotate_left
         ·
          rintro w' ⟨s0, s1, s2, s3, s4, s5, s6, s7, s8, s9, s10, s11, s12, s13, s14, s15, s16, s17, s18, s19, s20, s21⟩
          go_simp
          with_reducible rfl
         rotate_left
         ·
          simp only [Act.put, List.setIfInBounds_toArray, List.set_cons_zero, List.set_cons_succ, i64_w, i32_w]
          rfl
         refine take_ (i := 7) (N := some 52) (v := ?_) (a' := ?_) #[true, true, true, true, true, true, true, true, true, true, true, true, false, false, true, true, true, false, false, false, false] rfl rfl (take_ofW HT_.out HW_.out (by kernel_rfl)) (fun _ _ _ h => h) (Or.inl ⟨by rfl, ?_⟩) hHeld ?_ ?_
         rotate_left
         ·
          rintro w' ⟨s0, s1, s2, s3, s4, s5, s6, s7, s8, s9, s10, s11, s12, s13, s14, s15, s16, s17, s18, s19, s20, s21⟩
          go_simp
          with_reducible rfl
         rotate_left
         ·
          simp only [Act.put, List.setIfInBounds_toArray, List.set_cons_zero, List.set_cons_succ, i64_w, i32_w]
          rfl
         refine take_ (i := 12) (N := some 57) (v := ?_) (a' := ?_) #[true, true, true, true, true, true, true, true, true, true, true, true, true, false, true, true, true, false, false, false, false] rfl rfl (take_ofW HT_.out HW_.out (by kernel_rfl)) (fun _ _ _ h => h) (Or.inl ⟨by rfl, ?_⟩) hHeld ?_ ?_
         rotate_left
         ·
          rintro w' ⟨s0, s1, s2, s3, s4, s5, s6, s7, s8, s9, s10, s11, s12, s13, s14, s15, s16, s17, s18, s19, s20, s21⟩
          go_simp
          with_reducible rfl
         rotate_left
         ·
          simp only [Act.put, List.setIfInBounds_toArray, List.set_cons_zero, List.set_cons_succ, i64_w, i32_w]
          rfl
         refine pure_ (i := 13) (N := some 58) (v := ?_) (a' := ?_) #[true, true, true, true, true, true, true, true, true, true, true, true, true, true, true, true, true, false, false, false, false] rfl rfl (any_of HT_.out (by kernel_rfl)) (fun _ _ _ h => h) (Or.inl ⟨by rfl, ?_⟩) ?_ ?_
         rotate_left
         ·
          intro w'
          go_simp
          with_reducible rfl
         rotate_left
         ·
          simp only [Act.put, List.setIfInBounds_toArray, List.set_cons_zero, List.set_cons_succ, i64_w, i32_w]
          rfl
         refine take_ (i := 17) (N := some 62) (v := ?_) (a' := ?_) #[true, true, true, true, true, true, true, true, true, true, true, true, true, true, true, true, true, true, false, false, false] rfl rfl (take_ofW HT_.out HW_.out (by kernel_rfl)) (fun _ _ _ h => h) (Or.inl ⟨by rfl, ?_⟩) hHeld ?_ ?_
         rotate_left
         ·
          rintro w' ⟨s0, s1, s2, s3, s4, s5, s6, s7, s8, s9, s10, s11, s12, s13, s14, s15, s16, s17, s18, s19, s20, s21⟩
          go_simp
          with_reducible rfl
         rotate_left
         ·
          simp only [Act.put, List.setIfInBounds_toArray, List.set_cons_zero, List.set_cons_succ, i64_w, i32_w]
          rfl
         refine one_ (i := 18) (N := some 63) #[true, true, true, true, true, true, true, true, true, true, true, true, true, true, true, true, true, true, true, false, false] rfl rfl (one_of HT_.out (by kernel_rfl)) (by decide) (fun K hK => ?_)
         refine goes_ Try.func21 (by kernel_rfl) rfl #[.agg #[.int .u8 ((rd_T37 l0 x9_1).f0), .int .u8 ((rd_T37 l0 x9_1).f1), .int .u8 ((rd_T37 l0 x9_1).f2), .int .u8 ((rd_T37 l0 x9_1).f3), .string ((rd_T37 l0 x9_1).f4), .string ((rd_T37 l0 x9_1).f5)]] (by rfl) rfl rfl (by (try simp only [List.map_toArray, List.map_cons, List.map_nil]); first | done | rfl | (simp only [List.length_drop, List.length_take]; rfl)) ?_
         with_reducible refine (clinkerlaw05_Fate.calls ((rd_T37 l0 x9_1).f0) ((rd_T37 l0 x9_1).f1) ((rd_T37 l0 x9_1).f2) ((rd_T37 l0 x9_1).f3) ((rd_T37 l0 x9_1).f4) ((rd_T37 l0 x9_1).f5) t546 t547 t548 t549 _ A15.out).mono ?_
         rintro e w30 ⟨rfl, hb⟩
         refine ⟨_, rfl, ?_⟩
         have n0_ := Aside0.mk (Kd.V_below (by (with_reducible repeat (first | apply Kd.V_alloc | apply Kd.V_drewN | apply Kd.V_drew)); exact HO_532000.out) hb)
         have n1_ := Aside0.mk (Kd.V_below (by (with_reducible repeat (first | apply Kd.V_alloc | apply Kd.V_drewN | apply Kd.V_drew)); exact HO536.out) hb)
         have n2_ := Aside0.mk (blk_below (g := gb531) (o := .cells #[.slice Ao18 x532000_1.length co18, .bool x532001_1, .bool x532002_1, .int .i64 x532003_1] 27 (0, 0)) (by (with_reducible repeat (first | apply blk_drewN | apply blk_drew | apply blk_alloc)); exact BK531.out) hb)
         have n3_ := Aside0.mk (blk_below (g := gb542) (o := .cells #[.slice Ao23 t534.length co23, .bool t537, .bool t538, .int .i64 t539] 27 (0, 0)) (by (with_reducible repeat (first | apply blk_drewN | apply blk_drew | apply blk_alloc)); exact BK542.out) hb)
         have n4_ := Aside0.mk (below_step (by repeat (first | (with_reducible first | exact HB.out | apply below_alloc | apply pw_below_drewN | apply below_drew1 | refine below_set ?_ GE531.out | refine below_set ?_ GE542.out) | exact HB.out)) hb)
         clear HO_532000
         clear HO536
         clear BK531
         clear BK542
         clear HB
         have HO_532000 := n0_
         have HO536 := n1_
         have BK531 := n2_
         have BK542 := n3_
         have HB := n4_
         clear n0_ n1_ n2_ n3_ n4_
         (try clear hb)
         (try clear hb2)
         (try clear hk)
         (try clear hi)
         refine hK.out _ _ ⟨(blk_cell BK531.out 0).trans rfl, (blk_cell BK531.out 1).trans rfl, (blk_cell BK531.out 2).trans rfl, (blk_cell BK531.out 3).trans rfl, ((HB.out.cell (World.block_lt_of_cell? w _ hw543_0)).trans hw543_0), ((HB.out.cell (World.block_lt_of_cell? w _ hw543_1)).trans hw543_1), ((HB.out.cell (World.block_lt_of_cell? w _ hw543_2)).trans hw543_2), ((HB.out.cell (World.block_lt_of_cell? w _ hw543_3)).trans hw543_3), ((HB.out.cell (World.block_lt_of_cell? w _ hw543_4)).trans hw543_4), ((HB.out.cell (World.block_lt_of_cell? w _ hw543_5)).trans hw543_5), ((HB.out.cell (World.block_lt_of_cell? w _ hw544_0)).trans hw544_0), ((HB.out.cell (World.block_lt_of_cell? w _ hw544_1)).trans hw544_1), ((HB.out.cell (World.block_lt_of_cell? w _ hw544_2)).trans hw544_2), ((HB.out.cell (World.block_lt_of_cell? w _ hw544_3)).trans hw544_3), ((HB.out.cell (World.block_lt_of_cell? w _ hw544_4)).trans hw544_4), ((HB.out.cell (World.block_lt_of_cell? w _ hw544_5)).trans hw544_5), ((HB.out.cell (World.block_lt_of_cell? w _ hw545_0)).trans hw545_0), ((HB.out.cell (World.block_lt_of_cell? w _ hw545_1)).trans hw545_1), ((HB.out.cell (World.block_lt_of_cell? w _ hw545_2)).trans hw545_2), ((HB.out.cell (World.block_lt_of_cell? w _ hw545_3)).trans hw545_3), ((HB.out.cell (World.block_lt_of_cell? w _ hw545_4)).trans hw545_4), ((HB.out.cell (World.block_lt_of_cell? w _ hw545_5)).trans hw545_5)⟩ (fun hHeld => ?_)
         clear hK K
         refine norm_ (a' := ?_) ?_ ?_
         rotate_left
         ·
          show Act.put _ (some 63) _ = _
          simp only [Act.put, List.setIfInBounds_toArray, List.set_cons_zero, List.set_cons_succ, i64_w, i32_w]
          rfl
         refine one_ (i := 19) (N := some 64) #[true, true, true, true, true, true, true, true, true, true, true, true, true, true, true, true, true, true, true, true, false] rfl rfl (one_of HT_.out (by kernel_rfl)) (by decide) (fun K hK => ?_)
         refine goes_ Try.func20 (by kernel_rfl) rfl #[.agg #[.slice Ao18 x532000_1.length co18, .bool x532001_1, .bool x532002_1, .int .i64 x532003_1], .int .i64 t540, .int .i64 t541, .agg #[.bool false, .string ((rd_T37 l0 x9_1).f4), .string ((rd_T37 l0 x9_1).f5)], .agg #[.int .i64 t546, .string t547, .string t548, .int .i64 t549]] (by rfl) rfl rfl (by (try simp only [List.map_toArray, List.map_cons, List.map_nil]); first | done | rfl | (simp only [List.length_drop, List.length_take]; rfl)) ?_
         with_reducible refine (clinkerlaw05_same.calls _ _ x532000_1 x532001_1 x532002_1 x532003_1 t540 t541 false ((rd_T37 l0 x9_1).f4) ((rd_T37 l0 x9_1).f5) t546 t547 t548 t549 true ⟨rfl⟩ _ ?side1 ?side2 A16.out).mono ?_
         (case side1 => repeat (first | exact (Kd.V_reads' HO_532000.out).2.2 | (with_reducible refine Kd.C_alloc ?_ _) | (with_reducible refine Kd.C_drewN ?_ _) | (with_reducible refine Kd.C_drew ?_)))
         (case side2 => exact (Kd.V_reads' HO_532000.out).2.1)
         rintro e w31 ⟨rfl, hb⟩
         refine ⟨_, rfl, ?_⟩
         have n0_ := Aside0.mk (Kd.V_below (by (with_reducible repeat (first | apply Kd.V_alloc | apply Kd.V_drewN | apply Kd.V_drew)); exact HO_532000.out) hb)
         have n1_ := Aside0.mk (Kd.V_below (by (with_reducible repeat (first | apply Kd.V_alloc | apply Kd.V_drewN | apply Kd.V_drew)); exact HO536.out) hb)
         have n2_ := Aside0.mk (blk_below (g := gb531) (o := .cells #[.slice Ao18 x532000_1.length co18, .bool x532001_1, .bool x532002_1, .int .i64 x532003_1] 27 (0, 0)) (by (with_reducible repeat (first | apply blk_drewN | apply blk_drew | apply blk_alloc)); exact BK531.out) hb)
         have n3_ := Aside0.mk (blk_below (g := gb542) (o := .cells #[.slice Ao23 t534.length co23, .bool t537, .bool t538, .int .i64 t539] 27 (0, 0)) (by (with_reducible repeat (first | apply blk_drewN | apply blk_drew | apply blk_alloc)); exact BK542.out) hb)
         have n4_ := Aside0.mk (below_step (by repeat (first | (with_reducible first | exact HB.out | apply below_alloc | apply pw_below_drewN | apply below_drew1 | refine below_set ?_ GE531.out | refine below_set ?_ GE542.out) | exact HB.out)) hb)
         clear HO_532000
         clear HO536
         clear BK531
         clear BK542
         clear HB
         have HO_532000 := n0_
         have HO536 := n1_
         have BK531 := n2_
         have BK542 := n3_
         have HB := n4_
         clear n0_ n1_ n2_ n3_ n4_
         (try clear hb)
         (try clear hb2)
         (try clear hk)
         (try clear hi)
         refine hK.out _ _ ⟨(blk_cell BK531.out 0).trans rfl, (blk_cell BK531.out 1).trans rfl, (blk_cell BK531.out 2).trans rfl, (blk_cell BK531.out 3).trans rfl, ((HB.out.cell (World.block_lt_of_cell? w _ hw543_0)).trans hw543_0), ((HB.out.cell (World.block_lt_of_cell? w _ hw543_1)).trans hw543_1), ((HB.out.cell (World.block_lt_of_cell? w _ hw543_2)).trans hw543_2), ((HB.out.cell (World.block_lt_of_cell? w _ hw543_3)).trans hw543_3), ((HB.out.cell (World.block_lt_of_cell? w _ hw543_4)).trans hw543_4), ((HB.out.cell (World.block_lt_of_cell? w _ hw543_5)).trans hw543_5), ((HB.out.cell (World.block_lt_of_cell? w _ hw544_0)).trans hw544_0), ((HB.out.cell (World.block_lt_of_cell? w _ hw544_1)).trans hw544_1), ((HB.out.cell (World.block_lt_of_cell? w _ hw544_2)).trans hw544_2), ((HB.out.cell (World.block_lt_of_cell? w _ hw544_3)).trans hw544_3), ((HB.out.cell (World.block_lt_of_cell? w _ hw544_4)).trans hw544_4), ((HB.out.cell (World.block_lt_of_cell? w _ hw544_5)).trans hw544_5), ((HB.out.cell (World.block_lt_of_cell? w _ hw545_0)).trans hw545_0), ((HB.out.cell (World.block_lt_of_cell? w _ hw545_1)).trans hw545_1), ((HB.out.cell (World.block_lt_of_cell? w _ hw545_2)).trans hw545_2), ((HB.out.cell (World.block_lt_of_cell? w _ hw545_3)).trans hw545_3), ((HB.out.cell (World.block_lt_of_cell? w _ hw545_4)).trans hw545_4), ((HB.out.cell (World.block_lt_of_cell? w _ hw545_5)).trans hw545_5)⟩ (fun hHeld => ?_)
         clear hK K
         refine norm_ (a' := ?_) ?_ ?_
         rotate_left
         ·
          show Act.put _ (some 64) _ = _
          simp only [Act.put, List.setIfInBounds_toArray, List.set_cons_zero, List.set_cons_succ, i64_w, i32_w]
          rfl
         refine pure_ (i := 20) (N := some 65) (v := ?_) (a' := ?_) #[true, true, true, true, true, true, true, true, true, true, true, true, true, true, true, true, true, true, true, true, true] rfl rfl (any_of HT_.out (by kernel_rfl)) (fun _ _ _ h => h) (Or.inl ⟨by rfl, ?_⟩) ?_ ?_
         rotate_left
         ·
          intro w'
          go_simp
          with_reducible rfl
         rotate_left
         ·
          simp only [Act.put, List.setIfInBounds_toArray, List.set_cons_zero, List.set_cons_succ, i64_w, i32_w]
          rfl
         refine done_ (done_of HT_.out (by kernel_rfl)) ?_
         have hnb32 := NB542_531.out
         have hnc32 := NB531_542.out
         have hcz33_0 : w31.cell? ⟨gb542, 0, none⟩ = some (.slice Ao23 t534.length co23) := (blk_cell BK542.out 0).trans rfl
         have hcz33_1 : w31.cell? ⟨gb542, 1, none⟩ = some (.bool t537) := (blk_cell BK542.out 1).trans rfl
         have hcz33_2 : w31.cell? ⟨gb542, 2, none⟩ = some (.bool t538) := (blk_cell BK542.out 2).trans rfl
         have hcz33_3 : w31.cell? ⟨gb542, 3, none⟩ = some (.int .i64 t539) := (blk_cell BK542.out 3).trans rfl
         have hfz33_0 := blk_frozen BK542.out 0
         have hfz33_1 := blk_frozen BK542.out 1
         have hfz33_2 := blk_frozen BK542.out 2
         have hfz33_3 := blk_frozen BK542.out 3
         have hcz34_0 : w31.cell? ⟨gb531, 0, none⟩ = some (.slice Ao18 x532000_1.length co18) := (blk_cell BK531.out 0).trans rfl
         have hcz34_1 : w31.cell? ⟨gb531, 1, none⟩ = some (.bool x532001_1) := (blk_cell BK531.out 1).trans rfl
         have hcz34_2 : w31.cell? ⟨gb531, 2, none⟩ = some (.bool x532002_1) := (blk_cell BK531.out 2).trans rfl
         have hcz34_3 : w31.cell? ⟨gb531, 3, none⟩ = some (.int .i64 x532003_1) := (blk_cell BK531.out 3).trans rfl
         have hfz34_0 := blk_frozen BK531.out 0
         have hfz34_1 := blk_frozen BK531.out 1
         have hfz34_2 := blk_frozen BK531.out 2
         have hfz34_3 := blk_frozen BK531.out 3
         try go_wp2
         go_roundg kj8
         case measure => have := HK1.out; have := HJ8.out; omega
         case rel => exact ⟨(wrap64 (x9_1 + 1)), (t534), (t537), (t538), (t539), (.slice Ao23 t534.length co23), (by first | rfl | (simp; done) | (simp [*]; done)), H', ⟨by have := HK1.out; have := HJ8.out; omega⟩, ⟨by (with_reducible repeat (first | apply Kd.V_alloc | apply Kd.V_drewN | apply Kd.V_drew)); exact Kd.V_mono (Kd.V_far (p := ⟨gb531, 3, none⟩) (Kd.V_far (p := ⟨gb531, 2, none⟩) (Kd.V_far (p := ⟨gb531, 1, none⟩) (Kd.V_far (p := ⟨gb531, 0, none⟩) (Kd.V_mono HO536.out (fun k_ hk => (⟨hk, hk.1⟩ : _ ∧ k_ ≠ gb531))) (fun _ hk => hk.2) _) (fun _ hk => hk.2) (.bool t537)) (fun _ hk => hk.2) (.bool t538)) (fun _ hk => hk.2) _) (fun _ hk => hk.1.1)⟩, ⟨by (with_reducible repeat (first | apply blk_drewN | apply blk_drew | apply blk_alloc)); refine blk_put (cs := #[.slice Ao23 t534.length co23, .bool t537, .bool t538, .int .i64 x532003_1]) ?_ 3 _ rfl; (with_reducible repeat (first | apply blk_drewN | apply blk_drew | apply blk_alloc)); refine blk_put (cs := #[.slice Ao23 t534.length co23, .bool t537, .bool x532002_1, .int .i64 x532003_1]) ?_ 2 _ rfl; (with_reducible repeat (first | apply blk_drewN | apply blk_drew | apply blk_alloc)); refine blk_put (cs := #[.slice Ao23 t534.length co23, .bool x532001_1, .bool x532002_1, .int .i64 x532003_1]) ?_ 1 _ rfl; (with_reducible repeat (first | apply blk_drewN | apply blk_drew | apply blk_alloc)); refine blk_put (cs := #[.slice Ao18 x532000_1.length co18, .bool x532001_1, .bool x532002_1, .int .i64 x532003_1]) ?_ 0 _ rfl; (with_reducible repeat (first | apply blk_drewN | apply blk_drew | apply blk_alloc)); exact BK531.out⟩, ⟨by repeat (first | (with_reducible first | exact HB.out | apply below_alloc | apply pw_below_drewN | apply below_drew1 | refine below_set ?_ GE531.out | refine below_set ?_ GE542.out) | exact HB.out)⟩⟩
        ·
         replace c17 := Bool.eq_false_iff.mpr c17
         subst c17
         have H1 : (some false) = some r := by rw [if_neg (show ¬ (false = true) by decide)] at H; exact H
         clear H
         have H := H1
         clear H1
         exact absurd (H.trans (congrArg some hrt.out)) (by simp)
       ·
        rw [if_neg c13] at H
        exact absurd H (by simp)
      ·
       rw [if_neg c12] at H
       exact absurd H (by simp)
     ·
      replace c11 := Bool.eq_false_iff.mpr c11
      subst c11
      have H1 : ((clinkerlaw05_awake.f).bind fun t532 => (some t532)) = some r := by rw [if_neg (show ¬ (false = true) by decide)] at H; exact H
      clear H
      have H := H1
      clear H1
      replace H := Option.bind_eq_some_iff.mp H
      obtain ⟨t532, A490, H⟩ := H
      replace H : (some t532) = some r := H
      have A49 := Aside0.mk A490
      clear A490
      obtain rfl := Option.some.inj H
      go_wp2_with (first | ((with_reducible refine gate_callee (f := 11) rfl ?_); refine goesL_ (some 67) rfl rfl Try.func11 (by kernel_rfl) rfl #[] rfl (by (try simp only [List.map_toArray, List.map_cons, List.map_nil]); first | done | rfl | (simp only [List.length_drop, List.length_take]; rfl)) ?_; (with_reducible refine (clinkerlaw05_awake.calls  t532 _ A49.out).mono ?_); rintro e w50 ⟨rfl, hb⟩; refine ⟨_, rfl, ?_⟩; have n0_ := Aside0.mk (Kd.V_below (by (with_reducible repeat (first | apply Kd.V_alloc | apply Kd.V_drewN | apply Kd.V_drew)); exact HO_532000.out) hb); have n1_ := Aside0.mk (blk_below (g := gb531) (o := .cells #[u532000, .bool x532001_1, .bool x532002_1, .int .i64 x532003_1] 27 (0, 0)) (by (with_reducible repeat (first | apply blk_drewN | apply blk_drew | apply blk_alloc)); exact BK531.out) hb); have n2_ := Aside0.mk (below_step (by repeat (first | exact HB.out | apply below_alloc | apply pw_below_drewN | apply below_drew1 | refine below_set ?_ GE531.out)) hb); clear HO_532000; clear BK531; clear HB; have HO_532000 := n0_; have BK531 := n1_; have HB := n2_; clear n0_ n1_ n2_; (try clear hb); (try clear hb2); (try clear hk); (try clear hi)))
      go_ret
      exact ⟨by first | rfl | (simp [errW_none, errW_some] <;> rfl) | (simp [*, errW_none, errW_some] <;> rfl), by repeat (first | exact HB.out | apply below_alloc | apply pw_below_drewN | apply below_drew1 | refine below_set ?_ GE531.out)⟩



end Go.Proofs.Ythjjngfbpoapnaa.PAll
