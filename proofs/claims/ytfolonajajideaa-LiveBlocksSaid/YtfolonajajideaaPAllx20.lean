/- Written by a program of this session (wip/xp) out of the translation: functions in plain Lean, and proofs that the calls come to these. -/
import Derived.Test.YtfolonajajideaaPAllx0
import Derived.Test.YtfolonajajideaaPAllx19
import Derived.Test.YtfolonajajideaaShort
namespace Go.Proofs.Ytfolonajajideaa.PAll
open Go.RowKit Go.Proofs.YtfolonajajideaaW.PrintWords Go.Proofs.YtfolonajajideaaW.PrintLast Go.Proofs.YtfolonajajideaaW.PrintMore
attribute [local go_sem] max2_int min2_int max_two min_two max_three min_three max_four min_four   -- for this text's walks alone
set_option linter.unusedVariables false
set_option linter.unusedSimpArgs false

/-! ### clinkerref08_Count: function 18 -/
mutual
def clinkerref08_Count.l0 : Nat → Int → Int → Int → List Int → List Int → Option (Int)
 | 0, _, _, _, _, _ => none
 | k + 1, x1, x5, x6, x387000, x387001 => if x6 < 16 then (if x1 ≥ 0 then (clinkerref08_Count.j1 k x1 x5 x6 (decide (x1 < 32)) x387000 x387001) else (clinkerref08_Count.j1 k x1 x5 x6 false x387000 x387001)) else (clinkerref08_Count.j1 k x1 x5 x6 false x387000 x387001)
def clinkerref08_Count.j1 : Nat → Int → Int → Int → Bool → List Int → List Int → Option (Int)
 | 0, _, _, _, _, _, _ => none
 | k + 1, x1, x5, x6, x16, x387000, x387001 => if x16 = true then ((clinkerref08_Live.f k x387000 x387001 (wrap64 ((wrap64 (x1 * 16)) + x6))).bind fun t387 => (if t387 = true then (clinkerref08_Count.l0 k x1 (wrap64 (x5 + 1)) (wrap64 (x6 + 1)) x387000 x387001) else (clinkerref08_Count.l0 k x1 x5 (wrap64 (x6 + 1)) x387000 x387001))) else (some x5)
end
def clinkerref08_Count.f (k : Nat) (l0_0 : List Int) (l0_1 : List Int) (a1 : Int) : Option (Int) := clinkerref08_Count.l0 k a1 0 0 l0_0 l0_1
theorem clinkerref08_Count.mono_l : ∀ k, (∀ y0 y1 y2 y3 y4, LeO (clinkerref08_Count.l0 k y0 y1 y2 y3 y4) (clinkerref08_Count.l0 (k + 1) y0 y1 y2 y3 y4)) ∧ (∀ y0 y1 y2 y3 y4 y5, LeO (clinkerref08_Count.j1 k y0 y1 y2 y3 y4 y5) (clinkerref08_Count.j1 (k + 1) y0 y1 y2 y3 y4 y5))
 | 0 => ⟨fun _ _ _ _ _ r h => by simp [clinkerref08_Count.l0] at h, fun _ _ _ _ _ _ r h => by simp [clinkerref08_Count.j1] at h⟩
 | k + 1 => by
  obtain ⟨ih0, ih1⟩ := clinkerref08_Count.mono_l k
  refine ⟨?_, ?_⟩
  ·
   intro y0 y1 y2 y3 y4
   unfold clinkerref08_Count.l0
   repeat' first
   | (with_reducible exact ih0 _ _ _ _ _)
   | (with_reducible exact ih1 _ _ _ _ _ _)
   | (with_reducible exact clinkerref08_Live.mono _ _ _ _)
   | (with_reducible exact LeO.refl _)
   | (with_reducible exact LeO.none _)
   | (with_reducible refine LeO.ite ?_ ?_)
   | (with_reducible refine LeO.bind ?_ (fun _ => ?_))
   | exact ih0 _ _ _ _ _
   | exact ih1 _ _ _ _ _ _
   | exact clinkerref08_Live.mono _ _ _ _
   | exact LeO.none _
   | refine LeO.ite ?_ ?_
   | refine LeO.bind ?_ (fun _ => ?_)
  ·
   intro y0 y1 y2 y3 y4 y5
   unfold clinkerref08_Count.j1
   repeat' first
   | (with_reducible exact ih0 _ _ _ _ _)
   | (with_reducible exact ih1 _ _ _ _ _ _)
   | (with_reducible exact clinkerref08_Live.mono _ _ _ _)
   | (with_reducible exact LeO.refl _)
   | (with_reducible exact LeO.none _)
   | (with_reducible refine LeO.ite ?_ ?_)
   | (with_reducible refine LeO.bind ?_ (fun _ => ?_))
   | exact ih0 _ _ _ _ _
   | exact ih1 _ _ _ _ _ _
   | exact clinkerref08_Live.mono _ _ _ _
   | exact LeO.none _
   | refine LeO.ite ?_ ?_
   | refine LeO.bind ?_ (fun _ => ?_)
theorem clinkerref08_Count.mono : ∀ a0 a1 a2 k, LeO (clinkerref08_Count.f k a0 a1 a2) (clinkerref08_Count.f (k + 1) a0 a1 a2) := by
 intro a0 a1 a2 k
 obtain ⟨ih0, ih1⟩ := clinkerref08_Count.mono_l k
 unfold clinkerref08_Count.f
 repeat' first
   | (with_reducible exact ih0 _ _ _ _ _)
   | (with_reducible exact ih1 _ _ _ _ _ _)
   | (with_reducible exact clinkerref08_Live.mono _ _ _ _)
   | (with_reducible exact LeO.refl _)
   | (with_reducible exact LeO.none _)
   | (with_reducible refine LeO.ite ?_ ?_)
   | (with_reducible refine LeO.bind ?_ (fun _ => ?_))
   | exact ih0 _ _ _ _ _
   | exact ih1 _ _ _ _ _ _
   | exact clinkerref08_Live.mono _ _ _ _
   | exact LeO.none _
   | refine LeO.ite ?_ ?_
   | refine LeO.bind ?_ (fun _ => ?_)
set_option maxHeartbeats 8000000 in
set_option maxRecDepth 100000 in
theorem clinkerref08_Count.calls (k : Nat) (A0_0 : Option Addr) (c0_0 : Nat) (l0_0 : List Int) (A0_1 : Option Addr) (c0_1 : Nat) (l0_1 : List Int) (a1 : Int) (r : Int) (w : World) (hr0_0 : Kd.C (Kd.int .i64) w A0_0 l0_0.length l0_0) (hc0_0 : l0_0.length ≤ c0_0) (hr0_1 : Kd.C (Kd.int .i64) w A0_1 l0_1.length l0_1) (hc0_1 : l0_1.length ≤ c0_1) (h : clinkerref08_Count.f k l0_0 l0_1 a1 = some r) :
  Calls Try.prog 18 #[.agg #[.slice A0_0 l0_0.length c0_0, .slice A0_1 l0_1.length c0_1], .int .i64 a1] w fun e w' => e = .returned (.int .i64 r) ∧ Below w.heap.size w w' := by
 have hu24 := Try.underlying24
 have HR0_0 := Aside0.mk hr0_0
 have HC0_0 := Aside0.mk hc0_0
 clear hr0_0 hc0_0
 have HR0_1 := Aside0.mk hr0_1
 have HC0_1 := Aside0.mk hc0_1
 clear hr0_1 hc0_1
 have HB := Aside0.mk (Below.refl w.heap.size w)
 have H : (clinkerref08_Count.l0 k a1 0 0 l0_0 l0_1) = some r := h
 clear h
 have H' := Aside0.mk H
 clear H
 go_enter Try.func18, Try.ntmps18
 go_wp2_with (first | ((with_reducible refine gate_dst (N := 2) rfl ?_); refine box_event ?hg (N := 2) ?hd (cs := #[.slice A0_0 l0_0.length c0_0, .slice A0_1 l0_1.length c0_1]) (t := 24) ?hr ?_; (case hd => rfl); (case hg => rfl); (case hr => first | (go_simp; done) | (go_simp; rfl)); intro gb386 hg w3 hbox hb; have n0_ := Aside0.mk (below_step (by repeat (first | exact HB.out | apply lA | apply lN | apply lD)) hb); have n1_ := Aside0.mk (hbox); have n2_ := Aside0.mk ((by rw [hg]; exact (below_size (by repeat (first | exact HB.out | apply lA | apply lN | apply lD))) : w.heap.size ≤ gb386)); have n3_ := n2_; clear HB; have HB := n0_; have BK386 := n1_; have GW386 := n2_; have GE386 := n3_; clear n0_ n1_ n2_ n3_; clear hb hbox hg))
 go_loopg [5, 6] k (fun kq v5 v6 w' => ∃ (x5_1 : Int) (x6_1 : Int), v5 = .int .i64 x5_1 ∧ v6 = .int .i64 x6_1 ∧ Aside0 (clinkerref08_Count.l0 kq a1 x5_1 x6_1 l0_0 l0_1 = some r) ∧ Aside0 (kq ≤ k) ∧ Aside0 (w'.heap[gb386]? = some (.cells #[(.slice A0_0 l0_0.length c0_0), (.slice A0_1 l0_1.length c0_1)] 24 (0, 0))) ∧ Aside0 (Below w.heap.size w w'))
 case atStart => exact ⟨(0), (0), (by first | rfl | (simp; done) | (simp [*]; done)), (by first | rfl | (simp; done) | (simp [*]; done)), H', ⟨Nat.le_refl _⟩, ⟨by (with_reducible repeat (first | apply bN | apply bD | apply bA)); exact BK386.out⟩, ⟨by repeat (first | exact HB.out | apply lA | apply lN | apply lD | refine lS ?_ GE386.out)⟩⟩
 case round =>
  clear H'
  try clear c1
  try clear p2
  obtain ⟨x5_1, x6_1, rfl, rfl, HA, HK1, BK386, HB⟩ := hrel
  cases gk with
  | zero => exact absurd HA.out (by simp [clinkerref08_Count.l0])
  | succ k1 =>
   have H := HA.out
   clear HA
   simp only [clinkerref08_Count.l0] at H
   have HC4 := Aside0.mk H
   clear H
   go_upto_region 3 with (fail)
   go_cut [16] (fun v16 wc => ∃ (kq : Nat) (x16_3 : Bool), v16 = .bool x16_3 ∧ Aside0 (clinkerref08_Count.j1 kq a1 x5_1 x6_1 x16_3 l0_0 l0_1 = some r) ∧ Aside0 (kq ≤ k1) ∧ Aside0 (wc.heap[gb386]? = some (.cells #[(.slice A0_0 l0_0.length c0_0), (.slice A0_1 l0_1.length c0_1)] 24 (0, 0))) ∧ Aside0 (Below w.heap.size w wc))
   case first =>
    have H := HC4.out
    clear HC4
    by_cases c5 : x6_1 < 16
    ·
     rw [if_pos c5] at H
     have c5b0 : decide (x6_1 < 16) = true := decide_eq_true c5
     clear c5
     (first | rw [c5b0] | (simp only [i64_w, i32_w]; rw [c5b0]) | skip)
     by_cases c6 : a1 ≥ 0
     ·
      rw [if_pos c6] at H
      have c6b0 : decide (0 ≤ a1) = true := decide_eq_true c6
      clear c6
      have H' := Aside0.mk H
      clear H
      go_wp2
      go_meet
      case rel => exact ⟨_, (decide (a1 < 32)), (by first | rfl | (simp; done) | (simp [*]; done)), H', ⟨by have := HK1.out; first | omega | exact Nat.le_refl _⟩, ⟨by (with_reducible repeat (first | apply bN | apply bD | apply bA)); exact BK386.out⟩, ⟨by repeat (first | exact HB.out | apply lA | apply lN | apply lD | refine lS ?_ GE386.out)⟩⟩
     ·
      rw [if_neg c6] at H
      have c6b0 : decide (0 ≤ a1) = false := decide_eq_false c6
      clear c6
      have H' := Aside0.mk H
      clear H
      go_wp2
      go_meet
      case rel => exact ⟨_, (false), (by first | rfl | (simp; done) | (simp [*]; done)), H', ⟨by have := HK1.out; first | omega | exact Nat.le_refl _⟩, ⟨by (with_reducible repeat (first | apply bN | apply bD | apply bA)); exact BK386.out⟩, ⟨by repeat (first | exact HB.out | apply lA | apply lN | apply lD | refine lS ?_ GE386.out)⟩⟩
    ·
     rw [if_neg c5] at H
     have c5b0 : decide (x6_1 < 16) = false := decide_eq_false c5
     clear c5
     (first | rw [c5b0] | (simp only [i64_w, i32_w]; rw [c5b0]) | skip)
     have H' := Aside0.mk H
     clear H
     go_wp2
     go_meet
     case rel => exact ⟨_, (false), (by first | rfl | (simp; done) | (simp [*]; done)), H', ⟨by have := HK1.out; first | omega | exact Nat.le_refl _⟩, ⟨by (with_reducible repeat (first | apply bN | apply bD | apply bA)); exact BK386.out⟩, ⟨by repeat (first | exact HB.out | apply lA | apply lN | apply lD | refine lS ?_ GE386.out)⟩⟩
   case rest =>
    clear HC4
    try clear c1
    try clear p2
    try clear c5
    try clear c5b0
    try clear c6
    try clear c6b0
    try clear p2
    obtain ⟨kq, x16_3, rfl, HA, HJ3, BK386, HB⟩ := hcut
    cases kq with
    | zero => exact absurd HA.out (by simp [clinkerref08_Count.j1])
    | succ kj3 =>
     have H := HA.out
     clear HA
     simp only [clinkerref08_Count.j1] at H
     by_cases c7 : x16_3 = true
     ·
      subst c7
      have H1 : ((clinkerref08_Live.f kj3 l0_0 l0_1 (wrap64 ((wrap64 (a1 * 16)) + x6_1))).bind fun t387 => (if t387 = true then (clinkerref08_Count.l0 kj3 a1 (wrap64 (x5_1 + 1)) (wrap64 (x6_1 + 1)) l0_0 l0_1) else (clinkerref08_Count.l0 kj3 a1 x5_1 (wrap64 (x6_1 + 1)) l0_0 l0_1))) = some r := by rw [if_pos rfl] at H; exact H
      clear H
      have H := H1
      clear H1
      replace H := Option.bind_eq_some_iff.mp H
      obtain ⟨t387, A80, H⟩ := H
      replace H : (if t387 = true then (clinkerref08_Count.l0 kj3 a1 (wrap64 (x5_1 + 1)) (wrap64 (x6_1 + 1)) l0_0 l0_1) else (clinkerref08_Count.l0 kj3 a1 x5_1 (wrap64 (x6_1 + 1)) l0_0 l0_1)) = some r := H
      have A8 := Aside0.mk A80
      clear A80
      by_cases c9 : t387 = true
      ·
       subst c9
       have H1 : (clinkerref08_Count.l0 kj3 a1 (wrap64 (x5_1 + 1)) (wrap64 (x6_1 + 1)) l0_0 l0_1) = some r := by rw [if_pos rfl] at H; exact H
       clear H
       have H := H1
       clear H1
       have H' := Aside0.mk H
       clear H
       have hcz10_0 : wc.cell? ⟨gb386, 0, none⟩ = some (.slice A0_0 l0_0.length c0_0) := (blk_cell BK386.out 0).trans rfl
       have hcz10_1 : wc.cell? ⟨gb386, 1, none⟩ = some (.slice A0_1 l0_1.length c0_1) := (blk_cell BK386.out 1).trans rfl
       have hfz10_0 := blk_frozen BK386.out 0
       have hfz10_1 := blk_frozen BK386.out 1
       go_wp2_with (first | ((with_reducible refine gate_callee (f := 19) rfl ?_); refine goesL_ (some 24) rfl rfl Try.func19 (by kernel_rfl) rfl #[.agg #[.slice A0_0 l0_0.length c0_0, .slice A0_1 l0_1.length c0_1], .int .i64 (wrap64 ((wrap64 (a1 * 16)) + x6_1))] rfl (by (try simp only [List.map_toArray, List.map_cons, List.map_nil]); first | done | rfl | (simp only [List.length_drop, List.length_take]; rfl)) ?_; (with_reducible refine (clinkerref08_Live.calls kj3 _ _ l0_0 _ _ l0_1 (wrap64 ((wrap64 (a1 * 16)) + x6_1)) true _ ?side1 ?side2 ?side3 ?side4 A8.out).mono ?_); (case side1 => repeat (first | exact (Kd.C_below HR0_0.out HB.out) | (with_reducible refine Kd.C_alloc ?_ _) | (with_reducible refine Kd.C_drewN ?_ _) | (with_reducible refine Kd.C_drew ?_))); (case side2 => exact HC0_0.out); (case side3 => repeat (first | exact (Kd.C_below HR0_1.out HB.out) | (with_reducible refine Kd.C_alloc ?_ _) | (with_reducible refine Kd.C_drewN ?_ _) | (with_reducible refine Kd.C_drew ?_))); (case side4 => exact HC0_1.out); rintro e w11 ⟨rfl, hb⟩; refine ⟨_, rfl, ?_⟩; have n0_ := Aside0.mk (blk_below (g := gb386) (o := .cells #[.slice A0_0 l0_0.length c0_0, .slice A0_1 l0_1.length c0_1] 24 (0, 0)) (by (with_reducible repeat (first | apply bN | apply bD | apply bA)); exact BK386.out) hb); have n1_ := Aside0.mk (below_step (by repeat (first | exact HB.out | apply lA | apply lN | apply lD | refine lS ?_ GE386.out)) hb); clear BK386; clear HB; have BK386 := n0_; have HB := n1_; clear n0_ n1_; (try clear hb); (try clear hb2); (try clear hk); (try clear hi)))
       go_roundg kj3
       case measure => have := HK1.out; have := HJ3.out; omega
       case rel => exact ⟨(wrap64 (x5_1 + 1)), (wrap64 (x6_1 + 1)), (by first | rfl | (simp; done) | (simp [*]; done)), (by first | rfl | (simp; done) | (simp [*]; done)), H', ⟨by have := HK1.out; have := HJ3.out; omega⟩, ⟨by (with_reducible repeat (first | apply bN | apply bD | apply bA)); exact BK386.out⟩, ⟨by repeat (first | exact HB.out | apply lA | apply lN | apply lD | refine lS ?_ GE386.out)⟩⟩
      ·
       replace c9 := Bool.eq_false_iff.mpr c9
       subst c9
       have H1 : (clinkerref08_Count.l0 kj3 a1 x5_1 (wrap64 (x6_1 + 1)) l0_0 l0_1) = some r := by rw [if_neg (show ¬ (false = true) by decide)] at H; exact H
       clear H
       have H := H1
       clear H1
       have H' := Aside0.mk H
       clear H
       have hcz12_0 : wc.cell? ⟨gb386, 0, none⟩ = some (.slice A0_0 l0_0.length c0_0) := (blk_cell BK386.out 0).trans rfl
       have hcz12_1 : wc.cell? ⟨gb386, 1, none⟩ = some (.slice A0_1 l0_1.length c0_1) := (blk_cell BK386.out 1).trans rfl
       have hfz12_0 := blk_frozen BK386.out 0
       have hfz12_1 := blk_frozen BK386.out 1
       go_wp2_with (first | ((with_reducible refine gate_callee (f := 19) rfl ?_); refine goesL_ (some 24) rfl rfl Try.func19 (by kernel_rfl) rfl #[.agg #[.slice A0_0 l0_0.length c0_0, .slice A0_1 l0_1.length c0_1], .int .i64 (wrap64 ((wrap64 (a1 * 16)) + x6_1))] rfl (by (try simp only [List.map_toArray, List.map_cons, List.map_nil]); first | done | rfl | (simp only [List.length_drop, List.length_take]; rfl)) ?_; (with_reducible refine (clinkerref08_Live.calls kj3 _ _ l0_0 _ _ l0_1 (wrap64 ((wrap64 (a1 * 16)) + x6_1)) false _ ?side1 ?side2 ?side3 ?side4 A8.out).mono ?_); (case side1 => repeat (first | exact (Kd.C_below HR0_0.out HB.out) | (with_reducible refine Kd.C_alloc ?_ _) | (with_reducible refine Kd.C_drewN ?_ _) | (with_reducible refine Kd.C_drew ?_))); (case side2 => exact HC0_0.out); (case side3 => repeat (first | exact (Kd.C_below HR0_1.out HB.out) | (with_reducible refine Kd.C_alloc ?_ _) | (with_reducible refine Kd.C_drewN ?_ _) | (with_reducible refine Kd.C_drew ?_))); (case side4 => exact HC0_1.out); rintro e w13 ⟨rfl, hb⟩; refine ⟨_, rfl, ?_⟩; have n0_ := Aside0.mk (blk_below (g := gb386) (o := .cells #[.slice A0_0 l0_0.length c0_0, .slice A0_1 l0_1.length c0_1] 24 (0, 0)) (by (with_reducible repeat (first | apply bN | apply bD | apply bA)); exact BK386.out) hb); have n1_ := Aside0.mk (below_step (by repeat (first | exact HB.out | apply lA | apply lN | apply lD | refine lS ?_ GE386.out)) hb); clear BK386; clear HB; have BK386 := n0_; have HB := n1_; clear n0_ n1_; (try clear hb); (try clear hb2); (try clear hk); (try clear hi)))
       go_roundg kj3
       case measure => have := HK1.out; have := HJ3.out; omega
       case rel => exact ⟨(x5_1), (wrap64 (x6_1 + 1)), (by first | rfl | (simp; done) | (simp [*]; done)), (by first | rfl | (simp; done) | (simp [*]; done)), H', ⟨by have := HK1.out; have := HJ3.out; omega⟩, ⟨by (with_reducible repeat (first | apply bN | apply bD | apply bA)); exact BK386.out⟩, ⟨by repeat (first | exact HB.out | apply lA | apply lN | apply lD | refine lS ?_ GE386.out)⟩⟩
     ·
      replace c7 := Bool.eq_false_iff.mpr c7
      subst c7
      have H1 : (some x5_1) = some r := by rw [if_neg (show ¬ (false = true) by decide)] at H; exact H
      clear H
      have H := H1
      clear H1
      obtain rfl := Option.some.inj H
      go_wp2
      go_ret
      exact ⟨by first | rfl | (simp [errW_none, errW_some] <;> rfl) | (simp [*, errW_none, errW_some] <;> rfl), by repeat (first | exact HB.out | apply lA | apply lN | apply lD | refine lS ?_ GE386.out)⟩

end Go.Proofs.Ytfolonajajideaa.PAll
