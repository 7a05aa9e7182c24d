/- Written by a program of this session (wip/xp) out of the translation: functions in plain Lean, and proofs that the calls come to these. -/
import Derived.Test.YtfolonajajideaaPAllx0
import Derived.Test.YtfolonajajideaaPAllx15
import Derived.Test.YtfolonajajideaaPAllx16
import Derived.Test.YtfolonajajideaaShort
namespace Go.Proofs.Ytfolonajajideaa.PAll
open Go.RowKit Go.Proofs.YtfolonajajideaaW.PrintWords Go.Proofs.YtfolonajajideaaW.PrintLast Go.Proofs.YtfolonajajideaaW.PrintMore
attribute [local go_sem] max2_int min2_int max_two min_two max_three min_three max_four min_four   -- for this text's walks alone
set_option linter.unusedVariables false
set_option linter.unusedSimpArgs false

/-! ### clinkerref06_All: function 15 -/
mutual
def clinkerref06_All.l0 : Nat → List (S44) → Int → List (S62) → Bool → Bool → Int → Option ((List (S44)))
 | 0, _, _, _, _, _, _ => none
 | k + 1, x3, x4, x306000, x306001, x306002, x306003 => if x4 < (x306000.length : Int) then (clinkerref06_All.l1 k x3 x4 0 x306000 x306001 x306002 x306003) else (some x3)
def clinkerref06_All.l1 : Nat → List (S44) → Int → Int → List (S62) → Bool → Bool → Int → Option ((List (S44)))
 | 0, _, _, _, _, _, _, _ => none
 | k + 1, x3, x4, x5, x306000, x306001, x306002, x306003 => if 0 ≤ x4 then (if x4 < (x306000.length : Int) then (if x5 < (((rd_T62 x306000 x4).f0).length : Int) then (if 0 ≤ x5 then ((clinkerref04_Look.f k ((rd_T54 ((rd_T62 x306000 x4).f0) x5).f0) ((rd_T54 ((rd_T62 x306000 x4).f0) x5).f1) ((rd_T54 ((rd_T62 x306000 x4).f0) x5).f2)).bind fun bt309 => ((clinkerref06_Place.f x4 x5).bind fun t319 => (if bt309.1 = 1 then (if t319 ≥ 0 then ((clinkerref06_put.f k x3 t319 bt309.2.1 bt309.2.2.1 bt309.2.2.2.1 bt309.2.2.2.2).bind fun t320 => (clinkerref06_All.l1 k t320 x4 (wrap64 (x5 + 1)) x306000 x306001 x306002 x306003)) else (clinkerref06_All.l1 k x3 x4 (wrap64 (x5 + 1)) x306000 x306001 x306002 x306003)) else (clinkerref06_All.l1 k x3 x4 (wrap64 (x5 + 1)) x306000 x306001 x306002 x306003)))) else (none)) else (clinkerref06_All.l0 k x3 (wrap64 (x4 + 1)) x306000 x306001 x306002 x306003)) else (none)) else (none)
end
def clinkerref06_All.f (k : Nat) (l0_0 : List (S62)) (a0_1 : Bool) (a0_2 : Bool) (a0_3 : Int) : Option ((List (S44))) := clinkerref06_All.l0 k ([] : List (S44)) 0 l0_0 a0_1 a0_2 a0_3
theorem clinkerref06_All.mono_l : ∀ k, (∀ y0 y1 y2 y3 y4 y5, LeO (clinkerref06_All.l0 k y0 y1 y2 y3 y4 y5) (clinkerref06_All.l0 (k + 1) y0 y1 y2 y3 y4 y5)) ∧ (∀ y0 y1 y2 y3 y4 y5 y6, LeO (clinkerref06_All.l1 k y0 y1 y2 y3 y4 y5 y6) (clinkerref06_All.l1 (k + 1) y0 y1 y2 y3 y4 y5 y6))
 | 0 => ⟨fun _ _ _ _ _ _ r h => by simp [clinkerref06_All.l0] at h, fun _ _ _ _ _ _ _ r h => by simp [clinkerref06_All.l1] at h⟩
 | k + 1 => by
  obtain ⟨ih0, ih1⟩ := clinkerref06_All.mono_l k
  refine ⟨?_, ?_⟩
  ·
   intro y0 y1 y2 y3 y4 y5
   unfold clinkerref06_All.l0
   repeat' first
   | (with_reducible exact ih0 _ _ _ _ _ _)
   | (with_reducible exact ih1 _ _ _ _ _ _ _)
   | (with_reducible exact clinkerref04_Look.mono _ _ _ _)
   | (with_reducible exact clinkerref06_put.mono _ _ _ _ _ _ _)
   | (with_reducible exact LeO.refl _)
   | (with_reducible exact LeO.none _)
   | (with_reducible refine LeO.ite ?_ ?_)
   | (with_reducible refine LeO.bind ?_ (fun _ => ?_))
   | exact ih0 _ _ _ _ _ _
   | exact ih1 _ _ _ _ _ _ _
   | exact clinkerref04_Look.mono _ _ _ _
   | exact clinkerref06_put.mono _ _ _ _ _ _ _
   | exact LeO.none _
   | refine LeO.ite ?_ ?_
   | refine LeO.bind ?_ (fun _ => ?_)
  ·
   intro y0 y1 y2 y3 y4 y5 y6
   unfold clinkerref06_All.l1
   repeat' first
   | (with_reducible exact ih0 _ _ _ _ _ _)
   | (with_reducible exact ih1 _ _ _ _ _ _ _)
   | (with_reducible exact clinkerref04_Look.mono _ _ _ _)
   | (with_reducible exact clinkerref06_put.mono _ _ _ _ _ _ _)
   | (with_reducible exact LeO.refl _)
   | (with_reducible exact LeO.none _)
   | (with_reducible refine LeO.ite ?_ ?_)
   | (with_reducible refine LeO.bind ?_ (fun _ => ?_))
   | exact ih0 _ _ _ _ _ _
   | exact ih1 _ _ _ _ _ _ _
   | exact clinkerref04_Look.mono _ _ _ _
   | exact clinkerref06_put.mono _ _ _ _ _ _ _
   | exact LeO.none _
   | refine LeO.ite ?_ ?_
   | refine LeO.bind ?_ (fun _ => ?_)
theorem clinkerref06_All.mono : ∀ a0 a1 a2 a3 k, LeO (clinkerref06_All.f k a0 a1 a2 a3) (clinkerref06_All.f (k + 1) a0 a1 a2 a3) := by
 intro a0 a1 a2 a3 k
 obtain ⟨ih0, ih1⟩ := clinkerref06_All.mono_l k
 unfold clinkerref06_All.f
 repeat' first
   | (with_reducible exact ih0 _ _ _ _ _ _)
   | (with_reducible exact ih1 _ _ _ _ _ _ _)
   | (with_reducible exact clinkerref04_Look.mono _ _ _ _)
   | (with_reducible exact clinkerref06_put.mono _ _ _ _ _ _ _)
   | (with_reducible exact LeO.refl _)
   | (with_reducible exact LeO.none _)
   | (with_reducible refine LeO.ite ?_ ?_)
   | (with_reducible refine LeO.bind ?_ (fun _ => ?_))
   | exact ih0 _ _ _ _ _ _
   | exact ih1 _ _ _ _ _ _ _
   | exact clinkerref04_Look.mono _ _ _ _
   | exact clinkerref06_put.mono _ _ _ _ _ _ _
   | exact LeO.none _
   | refine LeO.ite ?_ ?_
   | refine LeO.bind ?_ (fun _ => ?_)
set_option maxHeartbeats 8000000 in
set_option maxRecDepth 100000 in
theorem clinkerref06_All.calls (k : Nat) (A0_0 : Option Addr) (c0_0 : Nat) (l0_0 : List (S62)) (a0_1 : Bool) (a0_2 : Bool) (a0_3 : Int) (r : List (S44)) (w : World) (hr0_0 : Kd.C k62 w A0_0 l0_0.length l0_0) (hc0_0 : l0_0.length ≤ c0_0) (h : clinkerref06_All.f k l0_0 a0_1 a0_2 a0_3 = some r) :
  Calls Try.prog 15 #[.agg #[.slice A0_0 l0_0.length c0_0, .bool a0_1, .bool a0_2, .int .i64 a0_3]] w fun e w' => ∃ v0_ : Value, e = .returned (v0_) ∧ Kd.N k44 44 w' w.heap.size (fun k_ => (w.heap.size ≤ k_)) v0_ r ∧ Below w.heap.size w w' := by
 have hu32 := Try.underlying32
 have hu54 := Try.underlying54
 have hu42 := Try.underlying42
 have hu44 := Try.underlying44
 have HR0_0 := Aside0.mk hr0_0
 have HC0_0 := Aside0.mk hc0_0
 clear hr0_0 hc0_0
 have HB := Aside0.mk (Below.refl w.heap.size w)
 have H : (clinkerref06_All.l0 k ([] : List (S44)) 0 l0_0 a0_1 a0_2 a0_3) = some r := h
 clear h
 have H' := Aside0.mk H
 clear H
 go_enter Try.func15, Try.ntmps15
 go_wp2_with (first | ((with_reducible refine gate_dst (N := 1) rfl ?_); refine box_event ?hg (N := 1) ?hd (cs := #[.slice A0_0 l0_0.length c0_0, .bool a0_1, .bool a0_2, .int .i64 a0_3]) (t := 32) ?hr ?_; (case hd => rfl); (case hg => rfl); (case hr => first | (go_simp; done) | (go_simp; rfl)); intro gb305 hg w2 hbox hb; have BK305 := Aside0.mk (hbox); have GW305 := Aside0.mk ((bz hg : w.heap.size ≤ gb305)); replace HB := Aside0.mk (bst hb); have GE305 := GW305; clear hb hbox hg))
 go_loopg [3, 4] k (fun kq v3 v4 w' => ∃ (x3_1 : List (S44)) (x4_1 : Int), v4 = .int .i64 x4_1 ∧ Aside0 (clinkerref06_All.l0 kq x3_1 x4_1 l0_0 a0_1 a0_2 a0_3 = some r) ∧ Aside0 (kq ≤ k) ∧ Aside0 (Kd.N k44 44 w' w.heap.size (fun k_ => (w.heap.size ≤ k_) ∧ k_ ≠ gb305) v3 x3_1) ∧ Aside0 (w'.heap[gb305]? = some (.cells #[(.slice A0_0 l0_0.length c0_0), .bool a0_1, .bool a0_2, .int .i64 a0_3] 32 (0, 0))) ∧ Aside0 (Below w.heap.size w w'))
 case atStart => exact ⟨(([] : List (S44))), (0), (by first | rfl | (simp; done) | (simp [*]; done)), H', ⟨Nat.le_refl _⟩, ⟨by first | exact Kd.S_nil _ _ _ _ _ | exact Kd.N_nil _ _ _ _ _ | exact Kd.V_nil _ _ _ _ _ | exact Kd.Q_nil _ _ _ _ _ | exact Kd.R_nil _ _ _ _ _⟩, ⟨mB BK305.out⟩, ⟨mH⟩⟩
 case round =>
  clear H'
  try clear c1
  try clear p2
  obtain ⟨x3_1, x4_1, rfl, HA, HK1, HO_3, BK305, HB⟩ := hrel
  cases gk with
  | zero => exact absurd HA.out (by simp [clinkerref06_All.l0])
  | succ k1 =>
   have H := HA.out
   clear HA
   simp only [clinkerref06_All.l0] at H
   by_cases c3 : x4_1 < (l0_0.length : Int)
   ·
    rw [if_pos c3] at H
    have c3b0 : decide (x4_1 < (l0_0.length : Int)) = true := decide_eq_true c3
    clear c3
    have H' := Aside0.mk H
    clear H
    obtain ⟨hcz4_0, hcz4_1, hcz4_2, hcz4_3, hfz4_0, hfz4_1, hfz4_2, hfz4_3⟩ := kc4 BK305.out
    go_wp2
    go_loopg [3, 5] k1 (fun kq v3 v5 w' => ∃ (x3_2 : List (S44)) (x5_2 : Int), v5 = .int .i64 x5_2 ∧ Aside0 (clinkerref06_All.l1 kq x3_2 x4_1 x5_2 l0_0 a0_1 a0_2 a0_3 = some r) ∧ Aside0 (kq ≤ k1) ∧ Aside0 (Kd.N k44 44 w' w.heap.size (fun k_ => (w.heap.size ≤ k_) ∧ k_ ≠ gb305) v3 x3_2) ∧ Aside0 (w'.heap[gb305]? = some (.cells #[(.slice A0_0 l0_0.length c0_0), .bool a0_1, .bool a0_2, .int .i64 a0_3] 32 (0, 0))) ∧ Aside0 (Below w.heap.size w w'))
    case atStart => exact ⟨(x3_1), (0), (by first | rfl | (simp; done) | (simp [*]; done)), H', ⟨Nat.le_refl _⟩, ⟨mN HO_3.out⟩, ⟨mB BK305.out⟩, ⟨mH⟩⟩
    case round =>
     clear H'
     try clear c1
     try clear p2
     try clear c3
     try clear c3b0
     try clear hcz4_0
     try clear hcz4_1
     try clear hcz4_2
     try clear hcz4_3
     try clear hfz4_0
     try clear hfz4_1
     try clear hfz4_2
     try clear hfz4_3
     try clear p2
     obtain ⟨x3_2, x5_2, rfl, HA, HK2, HO_3, BK305, HB⟩ := hrel
     cases gk with
     | zero => exact absurd HA.out (by simp [clinkerref06_All.l1])
     | succ k2 =>
      have H := HA.out
      clear HA
      simp only [clinkerref06_All.l1] at H
      by_cases c5 : 0 ≤ x4_1
      ·
       rw [if_pos c5] at H
       have c5b0 : decide (0 ≤ x4_1) = true := decide_eq_true c5
       clear c5
       by_cases c6 : x4_1 < (l0_0.length : Int)
       ·
        rw [if_pos c6] at H
        have c6b0 : decide (x4_1 < (l0_0.length : Int)) = true := decide_eq_true c6
        clear c6
        by_cases c7 : x5_2 < (((rd_T62 l0_0 x4_1).f0).length : Int)
        ·
         rw [if_pos c7] at H
         have c7b0 : decide (x5_2 < (((rd_T62 l0_0 x4_1).f0).length : Int)) = true := decide_eq_true c7
         clear c7
         by_cases c8 : 0 ≤ x5_2
         ·
          rw [if_pos c8] at H
          have c8b0 : decide (0 ≤ x5_2) = true := decide_eq_true c8
          clear c8
          replace H := Option.bind_eq_some_iff.mp H
          obtain ⟨⟨t309, t310, t311, t312, t315⟩, A90, H⟩ := H
          replace H : ((clinkerref06_Place.f x4_1 x5_2).bind fun t319 => (if t309 = 1 then (if t319 ≥ 0 then ((clinkerref06_put.f k2 x3_2 t319 t310 t311 t312 t315).bind fun t320 => (clinkerref06_All.l1 k2 t320 x4_1 (wrap64 (x5_2 + 1)) l0_0 a0_1 a0_2 a0_3)) else (clinkerref06_All.l1 k2 x3_2 x4_1 (wrap64 (x5_2 + 1)) l0_0 a0_1 a0_2 a0_3)) else (clinkerref06_All.l1 k2 x3_2 x4_1 (wrap64 (x5_2 + 1)) l0_0 a0_1 a0_2 a0_3))) = some r := H
          have A9 := Aside0.mk A90
          clear A90
          replace H := Option.bind_eq_some_iff.mp H
          obtain ⟨t319, A100, H⟩ := H
          replace H : (if t309 = 1 then (if t319 ≥ 0 then ((clinkerref06_put.f k2 x3_2 t319 t310 t311 t312 t315).bind fun t320 => (clinkerref06_All.l1 k2 t320 x4_1 (wrap64 (x5_2 + 1)) l0_0 a0_1 a0_2 a0_3)) else (clinkerref06_All.l1 k2 x3_2 x4_1 (wrap64 (x5_2 + 1)) l0_0 a0_1 a0_2 a0_3)) else (clinkerref06_All.l1 k2 x3_2 x4_1 (wrap64 (x5_2 + 1)) l0_0 a0_1 a0_2 a0_3)) = some r := H
          have A10 := Aside0.mk A100
          clear A100
          by_cases c11 : t309 = 1
          ·
           rw [if_pos c11] at H
           have c11b0 : (t309 == 1) = true := beq_iff_eq.mpr c11
           have c11b1 : (t309 != 1) = false := bne_eq_false_iff_eq.mpr c11
           clear c11
           by_cases c12 : t319 ≥ 0
           ·
            rw [if_pos c12] at H
            have c12b0 : decide (0 ≤ t319) = true := decide_eq_true c12
            clear c12
            replace H := Option.bind_eq_some_iff.mp H
            obtain ⟨t320, A130, H⟩ := H
            replace H : (clinkerref06_All.l1 k2 t320 x4_1 (wrap64 (x5_2 + 1)) l0_0 a0_1 a0_2 a0_3) = some r := H
            have A13 := Aside0.mk A130
            clear A130
            have H' := Aside0.mk H
            clear H
            obtain ⟨hcz14_0, hcz14_1, hcz14_2, hcz14_3, hfz14_0, hfz14_1, hfz14_2, hfz14_3⟩ := kc4 BK305.out
            have p306 : 0 ≤ (x4_1 : Int) := of_decide_eq_true (by first | (with_reducible assumption) | assumption)
            have q306 : x4_1 < (l0_0.length : Int) := of_decide_eq_true (by first | (with_reducible assumption) | assumption)
            obtain ⟨ad306, A306_0, c306_0, e306, hx306_0, hx306_1, hx306_2, hx306_3, hl306_0, hi306_0⟩ := at_T62 HR0_0.out x4_1 p306 q306
            cases e306
            replace hx306_0 := (HB.out.cell (World.block_lt_of_cell? w _ hx306_0)).trans hx306_0
            replace hx306_1 := (HB.out.cell (World.block_lt_of_cell? w _ hx306_1)).trans hx306_1
            replace hx306_2 := (HB.out.cell (World.block_lt_of_cell? w _ hx306_2)).trans hx306_2
            replace hx306_3 := (HB.out.cell (World.block_lt_of_cell? w _ hx306_3)).trans hx306_3
            have HR306_0 := Aside0.mk hi306_0
            have HC306_0 := Aside0.mk hl306_0
            clear hi306_0 hl306_0
            replace p306 := eq_true p306
            replace q306 := eq_true q306
            have p307 : 0 ≤ (x4_1 : Int) := of_decide_eq_true (by first | (with_reducible assumption) | assumption)
            have q307 : x4_1 < (l0_0.length : Int) := of_decide_eq_true (by first | (with_reducible assumption) | assumption)
            obtain ⟨ad307, A307_0, c307_0, e307, hx307_0, hx307_1, hx307_2, hx307_3, hl307_0, hi307_0⟩ := at_T62 HR0_0.out x4_1 p307 q307
            obtain rfl : ad306 = ad307 := (by injection e307)
            replace hx307_0 := (HB.out.cell (World.block_lt_of_cell? w _ hx307_0)).trans hx307_0
            replace hx307_1 := (HB.out.cell (World.block_lt_of_cell? w _ hx307_1)).trans hx307_1
            replace hx307_2 := (HB.out.cell (World.block_lt_of_cell? w _ hx307_2)).trans hx307_2
            replace hx307_3 := (HB.out.cell (World.block_lt_of_cell? w _ hx307_3)).trans hx307_3
            have HR307_0 := Aside0.mk hi307_0
            have HC307_0 := Aside0.mk hl307_0
            clear hi307_0 hl307_0
            replace p307 := eq_true p307
            replace q307 := eq_true q307
            have ea_ := Option.some.inj (hx306_0.symm.trans hx307_0)
            injection ea_ with ea_ en_ ec_
            subst ea_
            subst ec_
            clear en_
            have p308 : 0 ≤ (x5_2 : Int) := of_decide_eq_true (by first | (with_reducible assumption) | assumption)
            have q308 : x5_2 < (((rd_T62 l0_0 x4_1).f0).length : Int) := of_decide_eq_true (by first | (with_reducible assumption) | assumption)
            obtain ⟨ad308, e308, hx308_0, hx308_1, hx308_2⟩ := at_T54 HR307_0.out x5_2 p308 q308
            cases e308
            replace hx308_0 := (HB.out.cell (World.block_lt_of_cell? w _ hx308_0)).trans hx308_0
            replace hx308_1 := (HB.out.cell (World.block_lt_of_cell? w _ hx308_1)).trans hx308_1
            replace hx308_2 := (HB.out.cell (World.block_lt_of_cell? w _ hx308_2)).trans hx308_2
            replace p308 := eq_true p308
            replace q308 := eq_true q308
            go_wp2_with (first | ((with_reducible refine gate_callee (f := 31) rfl ?_); refine goesL_ (some 37) rfl rfl Try.func31 (by kernel_rfl) rfl #[.agg #[.bool ((rd_T54 ((rd_T62 l0_0 x4_1).f0) x5_2).f0), .string ((rd_T54 ((rd_T62 l0_0 x4_1).f0) x5_2).f1), .string ((rd_T54 ((rd_T62 l0_0 x4_1).f0) x5_2).f2)]] rfl (by (try simp only [List.map_toArray, List.map_cons, List.map_nil]); first | done | rfl | (simp only [List.length_drop, List.length_take]; rfl)) ?_; (with_reducible refine (clinkerref04_Look.calls k2 ((rd_T54 ((rd_T62 l0_0 x4_1).f0) x5_2).f0) ((rd_T54 ((rd_T62 l0_0 x4_1).f0) x5_2).f1) ((rd_T54 ((rd_T62 l0_0 x4_1).f0) x5_2).f2) t309 t310 t311 t312 t315 _ A9.out).mono ?_); rintro e w15 ⟨v313, v316, rfl, ho0, ho1, hb⟩; refine ⟨_, rfl, ?_⟩; replace HO_3 := Aside0.mk (Kd.N_mono (Kd.N_told (Kd.N_told (Kd.N_old (mN HO_3.out) hb) (Kd.R_base ho0)) (Kd.R_base ho1)) (fun _ h_ => h_.1)); have HO314 := Aside0.mk (Kd.R_lower (Kd.R_newM (M := fun k_ => (w.heap.size ≤ k_)) ho0 bsz (fun k_ h_ => h_)) bsz); have HO317 := Aside0.mk (Kd.R_lower (Kd.R_newM (M := fun k_ => (w.heap.size ≤ k_)) ho1 bsz (fun k_ h_ => h_)) bsz); replace BK305 := Aside0.mk (bb BK305.out hb); replace HB := Aside0.mk (bst hb); (try clear hb); (try clear hb2); (try clear hk); (try clear hi); (try clear ho0); (try clear ho1)) | ((with_reducible refine gate_dst (N := 7) rfl ?_); refine box_event ?hg (N := 7) ?hd (cs := #[.int .i64 0, .int .i64 0, .slice none 0 0, .slice none 0 0]) (t := 42) ?hr ?_; (case hd => rfl); (case hg => rfl); (case hr => first | (go_simp; done) | (go_simp; rfl)); intro gb318 hg w16 hbox hb; replace HO_3 := Aside0.mk (Kd.N_below (Kd.N_elderB (mN HO_3.out) gb318 (Nat.le_of_eq hg.symm)) hb); replace HO314 := Aside0.mk (Kd.R_below (mR HO314.out) hb); replace HO317 := Aside0.mk (Kd.R_below (mR HO317.out) hb); have BK318 := Aside0.mk (hbox); have GW318 := Aside0.mk ((bz hg : w.heap.size ≤ gb318)); replace HB := Aside0.mk (bst hb); have GE318 := GW318; have NB305_318 := Aside0.mk ((bl BK305.out hg : gb305 ≠ gb318)); replace BK305 := Aside0.mk (bb BK305.out hb); have NB318_305 := Aside0.mk NB305_318.out.symm; clear hb hbox hg; have hnb17 := NB318_305.out; have hnc17 := NB305_318.out; obtain ⟨hcz18_0, hcz18_1, hcz18_2, hcz18_3, hfz18_0, hfz18_1, hfz18_2, hfz18_3⟩ := kc4 BK318.out; obtain ⟨Ao19, co19, eo19⟩ := Kd.R_slice HO314.out; subst eo19; obtain ⟨Ao20, co20, eo20⟩ := Kd.R_slice HO317.out; subst eo20) | ((with_reducible refine gate_store (t := 42) (p := 7) rfl ?_); refine store_event (t := 42) (p := 7) (v := ?vo_w21) (w1 := ((((w16.setCell ⟨gb318, 0, none⟩ (.int .i64 t310)).setCell ⟨gb318, 1, none⟩ (.int .i64 t311)).setCell ⟨gb318, 2, none⟩ (.slice Ao19 t312.length co19)).setCell ⟨gb318, 3, none⟩ (.slice Ao20 t315.length co20))) ?hg ?ho ?hn ?hr ?_; (case ho => rfl); (case hg => rfl); (case hn => rfl); (case hr => first | (go_simp; done) | (go_simp; rfl)); intro w21 hw; have n0_ : Aside0 (Kd.N k44 44 w21 w.heap.size (fun k_ => (w.heap.size ≤ k_) ∧ some k_ ≠ (.slice Ao19 t312.length co19 : Value).ownBlock ∧ some k_ ≠ (.slice Ao20 t315.length co20 : Value).ownBlock ∧ k_ ≠ gb305 ∧ k_ ≠ gb318) u3 x3_2) := ⟨(by rw [hw]; exact (by (with_reducible repeat (first | apply Kd.N_alloc | apply Kd.N_drewN | apply Kd.N_drew)); exact Kd.N_mono (Kd.N_far (p := ⟨gb318, 3, none⟩) (Kd.N_far (p := ⟨gb318, 2, none⟩) (Kd.N_far (p := ⟨gb318, 1, none⟩) (Kd.N_far (p := ⟨gb318, 0, none⟩) (Kd.N_mono HO_3.out (fun k_ hk => (⟨hk, hk.2⟩ : _ ∧ k_ ≠ gb318))) (fun _ hk => hk.2) _) (fun _ hk => hk.2) _) (fun _ hk => hk.2) _) (fun _ hk => hk.2) _) (fun _ hk => ⟨hk.1.1.1.1.1, ⟨hk.1.1.1.2, ⟨hk.1.1.2, ⟨hk.1.1.1.1.2, hk.1.2⟩⟩⟩⟩)))⟩; have n1_ : Aside0 (Kd.R (Kd.int .i64) 3 w21 w.heap.size (fun k_ => (w.heap.size ≤ k_) ∧ some k_ ≠ (.slice Ao20 t315.length co20 : Value).ownBlock) (.slice Ao19 t312.length co19) t312) := ⟨(by rw [hw]; exact (by (with_reducible repeat (first | apply rA | apply rN | apply rD)); exact Kd.R_mono (Kd.R_far (p := ⟨gb318, 3, none⟩) (Kd.R_far (p := ⟨gb318, 2, none⟩) (Kd.R_far (p := ⟨gb318, 1, none⟩) (Kd.R_far (p := ⟨gb318, 0, none⟩) (Kd.R_types HO314.out BK318.out (by decide)) (fun _ hk => hk.2) _) (fun _ hk => hk.2) _) (fun _ hk => hk.2) _) (fun _ hk => hk.2) _) (fun _ hk => ⟨hk.1.1, hk.1.2⟩)))⟩; have n2_ : Aside0 (Kd.R (Kd.int .i64) 3 w21 w.heap.size (fun k_ => (w.heap.size ≤ k_) ∧ some k_ ≠ (.slice Ao19 t312.length co19 : Value).ownBlock) (.slice Ao20 t315.length co20) t315) := ⟨(by rw [hw]; exact (by (with_reducible repeat (first | apply rA | apply rN | apply rD)); exact Kd.R_mono (Kd.R_far (p := ⟨gb318, 3, none⟩) (Kd.R_far (p := ⟨gb318, 2, none⟩) (Kd.R_far (p := ⟨gb318, 1, none⟩) (Kd.R_far (p := ⟨gb318, 0, none⟩) (Kd.R_types HO317.out BK318.out (by decide)) (fun _ hk => hk.2) _) (fun _ hk => hk.2) _) (fun _ hk => hk.2) _) (fun _ hk => hk.2) _) (fun _ hk => ⟨hk.1.1, hk.1.2⟩)))⟩; have n3_ : Aside0 (w21.heap[gb305]? = some (.cells #[.slice (some ad306) l0_0.length c0_0, .bool a0_1, .bool a0_2, .int .i64 a0_3] 32 (0, 0))) := ⟨(by rw [hw]; exact (by (with_reducible repeat (first | apply bN | apply bD | apply bA)); refine blk_far ?_ NB305_318.out _; (with_reducible repeat (first | apply bN | apply bD | apply bA)); refine blk_far ?_ NB305_318.out _; (with_reducible repeat (first | apply bN | apply bD | apply bA)); refine blk_far ?_ NB305_318.out _; (with_reducible repeat (first | apply bN | apply bD | apply bA)); refine blk_far ?_ NB305_318.out _; (with_reducible repeat (first | apply bN | apply bD | apply bA)); exact BK305.out))⟩; have n4_ : Aside0 (w21.heap[gb318]? = some (.cells #[.int .i64 t310, .int .i64 t311, .slice Ao19 t312.length co19, .slice Ao20 t315.length co20] 42 (0, 0))) := ⟨(by rw [hw]; exact (by (with_reducible repeat (first | apply bN | apply bD | apply bA)); refine blk_put (cs := #[.int .i64 t310, .int .i64 t311, .slice Ao19 t312.length co19, .slice none 0 0]) ?_ 3 _ rfl; (with_reducible repeat (first | apply bN | apply bD | apply bA)); refine blk_put (cs := #[.int .i64 t310, .int .i64 t311, .slice none 0 0, .slice none 0 0]) ?_ 2 _ rfl; (with_reducible repeat (first | apply bN | apply bD | apply bA)); refine blk_put (cs := #[.int .i64 t310, .int .i64 0, .slice none 0 0, .slice none 0 0]) ?_ 1 _ rfl; (with_reducible repeat (first | apply bN | apply bD | apply bA)); refine blk_put (cs := #[.int .i64 0, .int .i64 0, .slice none 0 0, .slice none 0 0]) ?_ 0 _ rfl; (with_reducible repeat (first | apply bN | apply bD | apply bA)); exact BK318.out))⟩; have n5_ : Aside0 (Below w.heap.size w w21) := ⟨(by rw [hw]; exact (by repeat (first | (with_reducible first | exact HB.out | apply lA | apply lN | apply lD | refine lS ?_ GE305.out | refine lS ?_ GE318.out) | exact HB.out)))⟩; clear hw; clear HO_3; clear HO314; clear HO317; clear BK305; clear BK318; clear HB; have HO_3 := n0_; have HO314 := n1_; have HO317 := n2_; have BK305 := n3_; have BK318 := n4_; have HB := n5_; clear n0_ n1_ n2_ n3_ n4_ n5_) | ((with_reducible refine gate_callee (f := 32) rfl ?_); refine goesL_ (some 42) rfl rfl Try.func32 (by kernel_rfl) rfl #[.int .i64 x4_1, .int .i64 x5_2] rfl (by (try simp only [List.map_toArray, List.map_cons, List.map_nil]); first | done | rfl | (simp only [List.length_drop, List.length_take]; rfl)) ?_; (with_reducible refine (clinkerref06_Place.calls x4_1 x5_2 t319 _ A10.out).mono ?_); rintro e w' ⟨rfl, ⟨nd, rfl⟩⟩; refine ⟨_, rfl, ?_⟩; obtain ⟨hcz22_0, hcz22_1, hcz22_2, hcz22_3, hfz22_0, hfz22_1, hfz22_2, hfz22_3⟩ := kc4 BK318.out; obtain ⟨Ao23, co23, eo23⟩ := Kd.N_slice HO_3.out; subst eo23) | ((with_reducible refine gate_callee (f := 33) rfl ?_); refine goesL_ (some 53) rfl rfl Try.func33 (by kernel_rfl) rfl #[.slice Ao23 x3_2.length co23, .agg #[.int .i64 t319, .int .i64 t310, .int .i64 t311, .slice Ao19 t312.length co19, .slice Ao20 t315.length co20]] rfl (by (try simp only [List.map_toArray, List.map_cons, List.map_nil]); first | done | rfl | (simp only [List.length_drop, List.length_take]; rfl)) ?_; (with_reducible refine (clinkerref06_put.calls k2 (fun k_ => ((w.heap.size ≤ k_) ∧ (some k_ ≠ (.slice Ao19 t312.length co19 : Value).ownBlock ∧ (some k_ ≠ (.slice Ao20 t315.length co20 : Value).ownBlock ∧ (k_ ≠ gb305 ∧ k_ ≠ gb318))))) _ _ x3_2 t319 t310 t311 (fun k_ => some k_ = (.slice Ao19 t312.length co19 : Value).ownBlock) _ _ t312 (fun k_ => some k_ = (.slice Ao20 t315.length co20 : Value).ownBlock) _ _ t315 t320 _ ?side1 ?side2 ?side3 A13.out).mono ?_); (case side1 => exact Kd.N_V (HO_3.out)); (case side2 => exact Kd.R_V (Kd.R_tight rfl (Kd.R_types (Kd.R_types (Kd.R_apart' (HO314.out) (Kd.N_typed HO_3.out) (by decide)) BK305.out (by decide)) BK318.out (by decide)))); (case side3 => exact Kd.R_V (Kd.R_tight rfl (Kd.R_types (Kd.R_types (Kd.R_apart' (HO317.out) (Kd.N_typed HO_3.out) (by decide)) BK305.out (by decide)) BK318.out (by decide)))); rintro e w24 ⟨v321, rfl, ho0, hb⟩; refine ⟨_, rfl, ?_⟩; have HO322 := Aside0.mk (Kd.N_lower (Kd.N_mono (ok' := fun k_ => (w.heap.size ≤ k_) ∧ k_ ≠ gb305 ∧ k_ ≠ gb318) ho0 (fun k_ hk_ => ⟨Or.elim hk_ (fun hs_ => Or.elim hs_ (fun hs_ => hs_.1) (fun hs_ => Or.elim hs_ (fun hs_ => ((Kd.R_types (Kd.R_types (Kd.R_apart' (HO314.out) (Kd.N_typed HO_3.out) (by decide)) BK305.out (by decide)) BK318.out (by decide)).1 k_ hs_.symm).1.1.1.1) (fun hs_ => ((Kd.R_types (Kd.R_types (Kd.R_apart' (HO317.out) (Kd.N_typed HO_3.out) (by decide)) BK305.out (by decide)) BK318.out (by decide)).1 k_ hs_.symm).1.1.1.1))) (fun hn_ => (Nat.le_trans bsz hn_)), Or.elim hk_ (fun hs_ => Or.elim hs_ (fun hs_ => hs_.2.2.2.1) (fun hs_ => Or.elim hs_ (fun hs_ => ((Kd.R_types (Kd.R_types (Kd.R_apart' (HO314.out) (Kd.N_typed HO_3.out) (by decide)) BK305.out (by decide)) BK318.out (by decide)).1 k_ hs_.symm).1.2) (fun hs_ => ((Kd.R_types (Kd.R_types (Kd.R_apart' (HO317.out) (Kd.N_typed HO_3.out) (by decide)) BK305.out (by decide)) BK318.out (by decide)).1 k_ hs_.symm).1.2))) (fun hn_ => (Kd.freshB (g := gb305) (o := .cells #[.slice (some ad306) l0_0.length c0_0, .bool a0_1, .bool a0_2, .int .i64 a0_3] 32 (0, 0)) (mB BK305.out) k_ hn_)), Or.elim hk_ (fun hs_ => Or.elim hs_ (fun hs_ => hs_.2.2.2.2) (fun hs_ => Or.elim hs_ (fun hs_ => ((Kd.R_types (Kd.R_types (Kd.R_apart' (HO314.out) (Kd.N_typed HO_3.out) (by decide)) BK305.out (by decide)) BK318.out (by decide)).1 k_ hs_.symm).2) (fun hs_ => ((Kd.R_types (Kd.R_types (Kd.R_apart' (HO317.out) (Kd.N_typed HO_3.out) (by decide)) BK305.out (by decide)) BK318.out (by decide)).1 k_ hs_.symm).2))) (fun hn_ => (Kd.freshB (g := gb318) (o := .cells #[.int .i64 t310, .int .i64 t311, .slice Ao19 t312.length co19, .slice Ao20 t315.length co20] 42 (0, 0)) (mB BK318.out) k_ hn_))⟩)) bsz); replace HO_3 := Aside0.mk (Kd.N_elder' (mN HO_3.out) (Kd.N_base ho0) hb); replace HO314 := Aside0.mk (Kd.R_below (mR HO314.out) hb); replace HO317 := Aside0.mk (Kd.R_below (mR HO317.out) hb); replace BK305 := Aside0.mk (bb BK305.out hb); replace BK318 := Aside0.mk (bb BK318.out hb); replace HB := Aside0.mk (bst hb); (try clear hb); (try clear hb2); (try clear hk); (try clear hi); (try clear ho0)))
            go_roundg k2
            case measure => have := HK1.out; have := HK2.out; omega
            case rel => exact ⟨(t320), (wrap64 (x5_2 + 1)), (by first | rfl | (simp; done) | (simp [*]; done)), H', ⟨by have := HK1.out; have := HK2.out; omega⟩, ⟨by (with_reducible repeat (first | apply Kd.N_alloc | apply Kd.N_drewN | apply Kd.N_drew)); exact Kd.N_mono HO322.out (fun _ hk => ⟨hk.1, hk.2.1⟩)⟩, ⟨mB BK305.out⟩, ⟨mH⟩⟩
           ·
            rw [if_neg c12] at H
            have c12b0 : decide (0 ≤ t319) = false := decide_eq_false c12
            clear c12
            have H' := Aside0.mk H
            clear H
            obtain ⟨hcz25_0, hcz25_1, hcz25_2, hcz25_3, hfz25_0, hfz25_1, hfz25_2, hfz25_3⟩ := kc4 BK305.out
            have p306 : 0 ≤ (x4_1 : Int) := of_decide_eq_true (by first | (with_reducible assumption) | assumption)
            have q306 : x4_1 < (l0_0.length : Int) := of_decide_eq_true (by first | (with_reducible assumption) | assumption)
            obtain ⟨ad306, A306_0, c306_0, e306, hx306_0, hx306_1, hx306_2, hx306_3, hl306_0, hi306_0⟩ := at_T62 HR0_0.out x4_1 p306 q306
            cases e306
            replace hx306_0 := (HB.out.cell (World.block_lt_of_cell? w _ hx306_0)).trans hx306_0
            replace hx306_1 := (HB.out.cell (World.block_lt_of_cell? w _ hx306_1)).trans hx306_1
            replace hx306_2 := (HB.out.cell (World.block_lt_of_cell? w _ hx306_2)).trans hx306_2
            replace hx306_3 := (HB.out.cell (World.block_lt_of_cell? w _ hx306_3)).trans hx306_3
            have HR306_0 := Aside0.mk hi306_0
            have HC306_0 := Aside0.mk hl306_0
            clear hi306_0 hl306_0
            replace p306 := eq_true p306
            replace q306 := eq_true q306
            have p307 : 0 ≤ (x4_1 : Int) := of_decide_eq_true (by first | (with_reducible assumption) | assumption)
            have q307 : x4_1 < (l0_0.length : Int) := of_decide_eq_true (by first | (with_reducible assumption) | assumption)
            obtain ⟨ad307, A307_0, c307_0, e307, hx307_0, hx307_1, hx307_2, hx307_3, hl307_0, hi307_0⟩ := at_T62 HR0_0.out x4_1 p307 q307
            obtain rfl : ad306 = ad307 := (by injection e307)
            replace hx307_0 := (HB.out.cell (World.block_lt_of_cell? w _ hx307_0)).trans hx307_0
            replace hx307_1 := (HB.out.cell (World.block_lt_of_cell? w _ hx307_1)).trans hx307_1
            replace hx307_2 := (HB.out.cell (World.block_lt_of_cell? w _ hx307_2)).trans hx307_2
            replace hx307_3 := (HB.out.cell (World.block_lt_of_cell? w _ hx307_3)).trans hx307_3
            have HR307_0 := Aside0.mk hi307_0
            have HC307_0 := Aside0.mk hl307_0
            clear hi307_0 hl307_0
            replace p307 := eq_true p307
            replace q307 := eq_true q307
            have ea_ := Option.some.inj (hx306_0.symm.trans hx307_0)
            injection ea_ with ea_ en_ ec_
            subst ea_
            subst ec_
            clear en_
            have p308 : 0 ≤ (x5_2 : Int) := of_decide_eq_true (by first | (with_reducible assumption) | assumption)
            have q308 : x5_2 < (((rd_T62 l0_0 x4_1).f0).length : Int) := of_decide_eq_true (by first | (with_reducible assumption) | assumption)
            obtain ⟨ad308, e308, hx308_0, hx308_1, hx308_2⟩ := at_T54 HR307_0.out x5_2 p308 q308
            cases e308
            replace hx308_0 := (HB.out.cell (World.block_lt_of_cell? w _ hx308_0)).trans hx308_0
            replace hx308_1 := (HB.out.cell (World.block_lt_of_cell? w _ hx308_1)).trans hx308_1
            replace hx308_2 := (HB.out.cell (World.block_lt_of_cell? w _ hx308_2)).trans hx308_2
            replace p308 := eq_true p308
            replace q308 := eq_true q308
            go_wp2_with (first | ((with_reducible refine gate_callee (f := 31) rfl ?_); refine goesL_ (some 37) rfl rfl Try.func31 (by kernel_rfl) rfl #[.agg #[.bool ((rd_T54 ((rd_T62 l0_0 x4_1).f0) x5_2).f0), .string ((rd_T54 ((rd_T62 l0_0 x4_1).f0) x5_2).f1), .string ((rd_T54 ((rd_T62 l0_0 x4_1).f0) x5_2).f2)]] rfl (by (try simp only [List.map_toArray, List.map_cons, List.map_nil]); first | done | rfl | (simp only [List.length_drop, List.length_take]; rfl)) ?_; (with_reducible refine (clinkerref04_Look.calls k2 ((rd_T54 ((rd_T62 l0_0 x4_1).f0) x5_2).f0) ((rd_T54 ((rd_T62 l0_0 x4_1).f0) x5_2).f1) ((rd_T54 ((rd_T62 l0_0 x4_1).f0) x5_2).f2) t309 t310 t311 t312 t315 _ A9.out).mono ?_); rintro e w26 ⟨v313, v316, rfl, ho0, ho1, hb⟩; refine ⟨_, rfl, ?_⟩; replace HO_3 := Aside0.mk (Kd.N_mono (Kd.N_told (Kd.N_told (Kd.N_old (mN HO_3.out) hb) (Kd.R_base ho0)) (Kd.R_base ho1)) (fun _ h_ => h_.1)); have HO314 := Aside0.mk (Kd.R_lower (Kd.R_newM (M := fun k_ => (w.heap.size ≤ k_)) ho0 bsz (fun k_ h_ => h_)) bsz); have HO317 := Aside0.mk (Kd.R_lower (Kd.R_newM (M := fun k_ => (w.heap.size ≤ k_)) ho1 bsz (fun k_ h_ => h_)) bsz); replace BK305 := Aside0.mk (bb BK305.out hb); replace HB := Aside0.mk (bst hb); (try clear hb); (try clear hb2); (try clear hk); (try clear hi); (try clear ho0); (try clear ho1)) | ((with_reducible refine gate_dst (N := 7) rfl ?_); refine box_event ?hg (N := 7) ?hd (cs := #[.int .i64 0, .int .i64 0, .slice none 0 0, .slice none 0 0]) (t := 42) ?hr ?_; (case hd => rfl); (case hg => rfl); (case hr => first | (go_simp; done) | (go_simp; rfl)); intro gb318 hg w27 hbox hb; replace HO_3 := Aside0.mk (Kd.N_below (Kd.N_elderB (mN HO_3.out) gb318 (Nat.le_of_eq hg.symm)) hb); replace HO314 := Aside0.mk (Kd.R_below (mR HO314.out) hb); replace HO317 := Aside0.mk (Kd.R_below (mR HO317.out) hb); have BK318 := Aside0.mk (hbox); have GW318 := Aside0.mk ((bz hg : w.heap.size ≤ gb318)); replace HB := Aside0.mk (bst hb); have GE318 := GW318; have NB305_318 := Aside0.mk ((bl BK305.out hg : gb305 ≠ gb318)); replace BK305 := Aside0.mk (bb BK305.out hb); have NB318_305 := Aside0.mk NB305_318.out.symm; clear hb hbox hg; have hnb28 := NB318_305.out; have hnc28 := NB305_318.out; obtain ⟨hcz29_0, hcz29_1, hcz29_2, hcz29_3, hfz29_0, hfz29_1, hfz29_2, hfz29_3⟩ := kc4 BK318.out; obtain ⟨Ao30, co30, eo30⟩ := Kd.R_slice HO314.out; subst eo30; obtain ⟨Ao31, co31, eo31⟩ := Kd.R_slice HO317.out; subst eo31) | ((with_reducible refine gate_callee (f := 32) rfl ?_); refine goesL_ (some 42) rfl rfl Try.func32 (by kernel_rfl) rfl #[.int .i64 x4_1, .int .i64 x5_2] rfl (by (try simp only [List.map_toArray, List.map_cons, List.map_nil]); first | done | rfl | (simp only [List.length_drop, List.length_take]; rfl)) ?_; (with_reducible refine (clinkerref06_Place.calls x4_1 x5_2 t319 _ A10.out).mono ?_); rintro e w' ⟨rfl, ⟨nd, rfl⟩⟩; refine ⟨_, rfl, ?_⟩))
            go_roundg k2
            case measure => have := HK1.out; have := HK2.out; omega
            case rel => exact ⟨(x3_2), (wrap64 (x5_2 + 1)), (by first | rfl | (simp; done) | (simp [*]; done)), H', ⟨by have := HK1.out; have := HK2.out; omega⟩, ⟨by (with_reducible repeat (first | apply Kd.N_alloc | apply Kd.N_drewN | apply Kd.N_drew)); exact Kd.N_mono (Kd.N_far (p := ⟨gb318, 3, none⟩) (Kd.N_far (p := ⟨gb318, 2, none⟩) (Kd.N_far (p := ⟨gb318, 1, none⟩) (Kd.N_far (p := ⟨gb318, 0, none⟩) (Kd.N_mono HO_3.out (fun k_ hk => (⟨hk, hk.2⟩ : _ ∧ k_ ≠ gb318))) (fun _ hk => hk.2) _) (fun _ hk => hk.2) _) (fun _ hk => hk.2) _) (fun _ hk => hk.2) _) (fun _ hk => ⟨hk.1.1.1.1.1, hk.1.1.1.1.2⟩)⟩, ⟨by (with_reducible repeat (first | apply bN | apply bD | apply bA)); refine blk_far ?_ NB305_318.out _; (with_reducible repeat (first | apply bN | apply bD | apply bA)); refine blk_far ?_ NB305_318.out _; (with_reducible repeat (first | apply bN | apply bD | apply bA)); refine blk_far ?_ NB305_318.out _; (with_reducible repeat (first | apply bN | apply bD | apply bA)); refine blk_far ?_ NB305_318.out _; (with_reducible repeat (first | apply bN | apply bD | apply bA)); exact BK305.out⟩, ⟨mH⟩⟩
          ·
           rw [if_neg c11] at H
           have c11b0 : (t309 == 1) = false := beq_eq_false_iff_ne.mpr c11
           have c11b1 : (t309 != 1) = true := bne_iff_ne.mpr c11
           have H' := Aside0.mk H
           clear H
           obtain ⟨hcz32_0, hcz32_1, hcz32_2, hcz32_3, hfz32_0, hfz32_1, hfz32_2, hfz32_3⟩ := kc4 BK305.out
           have p306 : 0 ≤ (x4_1 : Int) := of_decide_eq_true (by first | (with_reducible assumption) | assumption)
           have q306 : x4_1 < (l0_0.length : Int) := of_decide_eq_true (by first | (with_reducible assumption) | assumption)
           obtain ⟨ad306, A306_0, c306_0, e306, hx306_0, hx306_1, hx306_2, hx306_3, hl306_0, hi306_0⟩ := at_T62 HR0_0.out x4_1 p306 q306
           cases e306
           replace hx306_0 := (HB.out.cell (World.block_lt_of_cell? w _ hx306_0)).trans hx306_0
           replace hx306_1 := (HB.out.cell (World.block_lt_of_cell? w _ hx306_1)).trans hx306_1
           replace hx306_2 := (HB.out.cell (World.block_lt_of_cell? w _ hx306_2)).trans hx306_2
           replace hx306_3 := (HB.out.cell (World.block_lt_of_cell? w _ hx306_3)).trans hx306_3
           have HR306_0 := Aside0.mk hi306_0
           have HC306_0 := Aside0.mk hl306_0
           clear hi306_0 hl306_0
           replace p306 := eq_true p306
           replace q306 := eq_true q306
           have p307 : 0 ≤ (x4_1 : Int) := of_decide_eq_true (by first | (with_reducible assumption) | assumption)
           have q307 : x4_1 < (l0_0.length : Int) := of_decide_eq_true (by first | (with_reducible assumption) | assumption)
           obtain ⟨ad307, A307_0, c307_0, e307, hx307_0, hx307_1, hx307_2, hx307_3, hl307_0, hi307_0⟩ := at_T62 HR0_0.out x4_1 p307 q307
           obtain rfl : ad306 = ad307 := (by injection e307)
           replace hx307_0 := (HB.out.cell (World.block_lt_of_cell? w _ hx307_0)).trans hx307_0
           replace hx307_1 := (HB.out.cell (World.block_lt_of_cell? w _ hx307_1)).trans hx307_1
           replace hx307_2 := (HB.out.cell (World.block_lt_of_cell? w _ hx307_2)).trans hx307_2
           replace hx307_3 := (HB.out.cell (World.block_lt_of_cell? w _ hx307_3)).trans hx307_3
           have HR307_0 := Aside0.mk hi307_0
           have HC307_0 := Aside0.mk hl307_0
           clear hi307_0 hl307_0
           replace p307 := eq_true p307
           replace q307 := eq_true q307
           have ea_ := Option.some.inj (hx306_0.symm.trans hx307_0)
           injection ea_ with ea_ en_ ec_
           subst ea_
           subst ec_
           clear en_
           have p308 : 0 ≤ (x5_2 : Int) := of_decide_eq_true (by first | (with_reducible assumption) | assumption)
           have q308 : x5_2 < (((rd_T62 l0_0 x4_1).f0).length : Int) := of_decide_eq_true (by first | (with_reducible assumption) | assumption)
           obtain ⟨ad308, e308, hx308_0, hx308_1, hx308_2⟩ := at_T54 HR307_0.out x5_2 p308 q308
           cases e308
           replace hx308_0 := (HB.out.cell (World.block_lt_of_cell? w _ hx308_0)).trans hx308_0
           replace hx308_1 := (HB.out.cell (World.block_lt_of_cell? w _ hx308_1)).trans hx308_1
           replace hx308_2 := (HB.out.cell (World.block_lt_of_cell? w _ hx308_2)).trans hx308_2
           replace p308 := eq_true p308
           replace q308 := eq_true q308
           go_wp2_with (first | ((with_reducible refine gate_callee (f := 31) rfl ?_); refine goesL_ (some 37) rfl rfl Try.func31 (by kernel_rfl) rfl #[.agg #[.bool ((rd_T54 ((rd_T62 l0_0 x4_1).f0) x5_2).f0), .string ((rd_T54 ((rd_T62 l0_0 x4_1).f0) x5_2).f1), .string ((rd_T54 ((rd_T62 l0_0 x4_1).f0) x5_2).f2)]] rfl (by (try simp only [List.map_toArray, List.map_cons, List.map_nil]); first | done | rfl | (simp only [List.length_drop, List.length_take]; rfl)) ?_; (with_reducible refine (clinkerref04_Look.calls k2 ((rd_T54 ((rd_T62 l0_0 x4_1).f0) x5_2).f0) ((rd_T54 ((rd_T62 l0_0 x4_1).f0) x5_2).f1) ((rd_T54 ((rd_T62 l0_0 x4_1).f0) x5_2).f2) t309 t310 t311 t312 t315 _ A9.out).mono ?_); rintro e w33 ⟨v313, v316, rfl, ho0, ho1, hb⟩; refine ⟨_, rfl, ?_⟩; replace HO_3 := Aside0.mk (Kd.N_mono (Kd.N_told (Kd.N_told (Kd.N_old (mN HO_3.out) hb) (Kd.R_base ho0)) (Kd.R_base ho1)) (fun _ h_ => h_.1)); have HO314 := Aside0.mk (Kd.R_lower (Kd.R_newM (M := fun k_ => (w.heap.size ≤ k_)) ho0 bsz (fun k_ h_ => h_)) bsz); have HO317 := Aside0.mk (Kd.R_lower (Kd.R_newM (M := fun k_ => (w.heap.size ≤ k_)) ho1 bsz (fun k_ h_ => h_)) bsz); replace BK305 := Aside0.mk (bb BK305.out hb); replace HB := Aside0.mk (bst hb); (try clear hb); (try clear hb2); (try clear hk); (try clear hi); (try clear ho0); (try clear ho1)) | ((with_reducible refine gate_dst (N := 7) rfl ?_); refine box_event ?hg (N := 7) ?hd (cs := #[.int .i64 0, .int .i64 0, .slice none 0 0, .slice none 0 0]) (t := 42) ?hr ?_; (case hd => rfl); (case hg => rfl); (case hr => first | (go_simp; done) | (go_simp; rfl)); intro gb318 hg w34 hbox hb; replace HO_3 := Aside0.mk (Kd.N_below (Kd.N_elderB (mN HO_3.out) gb318 (Nat.le_of_eq hg.symm)) hb); replace HO314 := Aside0.mk (Kd.R_below (mR HO314.out) hb); replace HO317 := Aside0.mk (Kd.R_below (mR HO317.out) hb); have BK318 := Aside0.mk (hbox); have GW318 := Aside0.mk ((bz hg : w.heap.size ≤ gb318)); replace HB := Aside0.mk (bst hb); have GE318 := GW318; have NB305_318 := Aside0.mk ((bl BK305.out hg : gb305 ≠ gb318)); replace BK305 := Aside0.mk (bb BK305.out hb); have NB318_305 := Aside0.mk NB305_318.out.symm; clear hb hbox hg; have hnb35 := NB318_305.out; have hnc35 := NB305_318.out; obtain ⟨hcz36_0, hcz36_1, hcz36_2, hcz36_3, hfz36_0, hfz36_1, hfz36_2, hfz36_3⟩ := kc4 BK318.out; obtain ⟨Ao37, co37, eo37⟩ := Kd.R_slice HO314.out; subst eo37; obtain ⟨Ao38, co38, eo38⟩ := Kd.R_slice HO317.out; subst eo38) | ((with_reducible refine gate_callee (f := 32) rfl ?_); refine goesL_ (some 42) rfl rfl Try.func32 (by kernel_rfl) rfl #[.int .i64 x4_1, .int .i64 x5_2] rfl (by (try simp only [List.map_toArray, List.map_cons, List.map_nil]); first | done | rfl | (simp only [List.length_drop, List.length_take]; rfl)) ?_; (with_reducible refine (clinkerref06_Place.calls x4_1 x5_2 t319 _ A10.out).mono ?_); rintro e w' ⟨rfl, ⟨nd, rfl⟩⟩; refine ⟨_, rfl, ?_⟩))
           go_roundg k2
           case measure => have := HK1.out; have := HK2.out; omega
           case rel => exact ⟨(x3_2), (wrap64 (x5_2 + 1)), (by first | rfl | (simp; done) | (simp [*]; done)), H', ⟨by have := HK1.out; have := HK2.out; omega⟩, ⟨by (with_reducible repeat (first | apply Kd.N_alloc | apply Kd.N_drewN | apply Kd.N_drew)); exact Kd.N_mono (Kd.N_far (p := ⟨gb318, 3, none⟩) (Kd.N_far (p := ⟨gb318, 2, none⟩) (Kd.N_far (p := ⟨gb318, 1, none⟩) (Kd.N_far (p := ⟨gb318, 0, none⟩) (Kd.N_mono HO_3.out (fun k_ hk => (⟨hk, hk.2⟩ : _ ∧ k_ ≠ gb318))) (fun _ hk => hk.2) _) (fun _ hk => hk.2) _) (fun _ hk => hk.2) _) (fun _ hk => hk.2) _) (fun _ hk => ⟨hk.1.1.1.1.1, hk.1.1.1.1.2⟩)⟩, ⟨by (with_reducible repeat (first | apply bN | apply bD | apply bA)); refine blk_far ?_ NB305_318.out _; (with_reducible repeat (first | apply bN | apply bD | apply bA)); refine blk_far ?_ NB305_318.out _; (with_reducible repeat (first | apply bN | apply bD | apply bA)); refine blk_far ?_ NB305_318.out _; (with_reducible repeat (first | apply bN | apply bD | apply bA)); refine blk_far ?_ NB305_318.out _; (with_reducible repeat (first | apply bN | apply bD | apply bA)); exact BK305.out⟩, ⟨mH⟩⟩
         ·
          rw [if_neg c8] at H
          exact absurd H (by simp)
        ·
         rw [if_neg c7] at H
         have c7b0 : decide (x5_2 < (((rd_T62 l0_0 x4_1).f0).length : Int)) = false := decide_eq_false c7
         clear c7
         have H' := Aside0.mk H
         clear H
         obtain ⟨hcz39_0, hcz39_1, hcz39_2, hcz39_3, hfz39_0, hfz39_1, hfz39_2, hfz39_3⟩ := kc4 BK305.out
         have p306 : 0 ≤ (x4_1 : Int) := of_decide_eq_true (by first | (with_reducible assumption) | assumption)
         have q306 : x4_1 < (l0_0.length : Int) := of_decide_eq_true (by first | (with_reducible assumption) | assumption)
         obtain ⟨ad306, A306_0, c306_0, e306, hx306_0, hx306_1, hx306_2, hx306_3, hl306_0, hi306_0⟩ := at_T62 HR0_0.out x4_1 p306 q306
         cases e306
         replace hx306_0 := (HB.out.cell (World.block_lt_of_cell? w _ hx306_0)).trans hx306_0
         replace hx306_1 := (HB.out.cell (World.block_lt_of_cell? w _ hx306_1)).trans hx306_1
         replace hx306_2 := (HB.out.cell (World.block_lt_of_cell? w _ hx306_2)).trans hx306_2
         replace hx306_3 := (HB.out.cell (World.block_lt_of_cell? w _ hx306_3)).trans hx306_3
         have HR306_0 := Aside0.mk hi306_0
         have HC306_0 := Aside0.mk hl306_0
         clear hi306_0 hl306_0
         replace p306 := eq_true p306
         replace q306 := eq_true q306
         go_wp2
         go_roundg k2
         case measure => have := HK1.out; have := HK2.out; omega
         case rel => exact ⟨(x3_2), (wrap64 (x4_1 + 1)), (by first | rfl | (simp; done) | (simp [*]; done)), H', ⟨by have := HK1.out; have := HK2.out; omega⟩, ⟨mN HO_3.out⟩, ⟨mB BK305.out⟩, ⟨mH⟩⟩
       ·
        rw [if_neg c6] at H
        exact absurd H (by simp)
      ·
       rw [if_neg c5] at H
       exact absurd H (by simp)
   ·
    rw [if_neg c3] at H
    have c3b0 : decide (x4_1 < (l0_0.length : Int)) = false := decide_eq_false c3
    clear c3
    obtain rfl := Option.some.inj H
    obtain ⟨hcz40_0, hcz40_1, hcz40_2, hcz40_3, hfz40_0, hfz40_1, hfz40_2, hfz40_3⟩ := kc4 BK305.out
    go_wp2
    go_ret
    exact ⟨_, by first | rfl | (simp [errW_none, errW_some] <;> rfl) | (simp [*, errW_none, errW_some] <;> rfl), by (with_reducible repeat (first | apply Kd.N_alloc | apply Kd.N_drewN | apply Kd.N_drew)); exact Kd.N_mono HO_3.out (fun _ hk => hk.1), by repeat (first | exact HB.out | apply lA | apply lN | apply lD | refine lS ?_ GE305.out)⟩

/-! ### clinkerref07_New: function 27 -/
def clinkerref07_New.l0 : Nat → Int → Int → List Int → List Int → Option (List Int × List Int)
 | 0, _, _, _, _ => none
 | k + 1, x0, x4, x325000, x325001 => if x4 < x0 then (if x4 < 64 then (if x325000.length < 17592186044416 then (if x325001.length < 17592186044416 then (clinkerref07_New.l0 k x0 (wrap64 (x4 + 1)) (x325000 ++ [(-1)]) (x325001 ++ [(-1)])) else (none)) else (none)) else (some (x325000, x325001))) else (some (x325000, x325001))
def clinkerref07_New.f (k : Nat) (a0 : Int) : Option (List Int × List Int) := clinkerref07_New.l0 k a0 0 ([] : List Int) ([] : List Int)
theorem clinkerref07_New.mono_l : ∀ k, (∀ y0 y1 y2 y3, LeO (clinkerref07_New.l0 k y0 y1 y2 y3) (clinkerref07_New.l0 (k + 1) y0 y1 y2 y3))
 | 0 => fun _ _ _ _ r h => by simp [clinkerref07_New.l0] at h
 | k + 1 => by
  have ih0 := clinkerref07_New.mono_l k
  ·
   intro y0 y1 y2 y3
   unfold clinkerref07_New.l0
   repeat' first
   | (with_reducible exact ih0 _ _ _ _)
   | (with_reducible exact LeO.refl _)
   | (with_reducible exact LeO.none _)
   | (with_reducible refine LeO.ite ?_ ?_)
   | (with_reducible refine LeO.bind ?_ (fun _ => ?_))
   | exact ih0 _ _ _ _
   | exact LeO.none _
   | refine LeO.ite ?_ ?_
   | refine LeO.bind ?_ (fun _ => ?_)
theorem clinkerref07_New.mono : ∀ a0 k, LeO (clinkerref07_New.f k a0) (clinkerref07_New.f (k + 1) a0) := by
 intro a0 k
 have ih0 := clinkerref07_New.mono_l k
 unfold clinkerref07_New.f
 repeat' first
   | (with_reducible exact ih0 _ _ _ _)
   | (with_reducible exact LeO.refl _)
   | (with_reducible exact LeO.none _)
   | (with_reducible refine LeO.ite ?_ ?_)
   | (with_reducible refine LeO.bind ?_ (fun _ => ?_))
   | exact ih0 _ _ _ _
   | exact LeO.none _
   | refine LeO.ite ?_ ?_
   | refine LeO.bind ?_ (fun _ => ?_)
set_option maxHeartbeats 8000000 in
set_option maxRecDepth 100000 in
theorem clinkerref07_New.calls (k : Nat) (a0 : Int) (r1 : List Int) (r2 : List Int) (w : World) (h : clinkerref07_New.f k a0 = some (r1, r2)) :
  Calls Try.prog 27 #[.int .i64 a0] w fun e w' => ∃ v0_ v1_ : Value, e = .returned (.agg #[v0_, v1_]) ∧ Kd.R (Kd.int .i64) 3 w' w.heap.size (fun k_ => some k_ ≠ (v1_ : Value).ownBlock) v0_ r1 ∧ Kd.R (Kd.int .i64) 3 w' w.heap.size (fun k_ => some k_ ≠ (v0_ : Value).ownBlock) v1_ r2 ∧ Below w.heap.size w w' := by
 have hu24 := Try.underlying24
 have HB := Aside0.mk (Below.refl w.heap.size w)
 have H : (clinkerref07_New.l0 k a0 0 ([] : List Int) ([] : List Int)) = some (r1, r2) := h
 clear h
 have H' := Aside0.mk H
 clear H
 go_enter Try.func27, Try.ntmps27
 go_wp2_with (first | ((with_reducible refine gate_dst (N := 2) rfl ?_); refine box_event ?hg (N := 2) ?hd (cs := #[.slice none 0 0, .slice none 0 0]) (t := 24) ?hr ?_; (case hd => rfl); (case hg => rfl); (case hr => first | (go_simp; done) | (go_simp; rfl)); intro gb323 hg w2 hbox hb; have BK323 := Aside0.mk (hbox); have GW323 := Aside0.mk ((bz hg : w.heap.size ≤ gb323)); replace HB := Aside0.mk (bst hb); have GE323 := GW323; clear hb hbox hg) | ((with_reducible refine gate_dst (N := 3) rfl ?_); refine box_event ?hg (N := 3) ?hd (cs := #[.slice none 0 0, .slice none 0 0]) (t := 24) ?hr ?_; (case hd => rfl); (case hg => rfl); (case hr => first | (go_simp; done) | (go_simp; rfl)); intro gb324 hg w3 hbox hb; have BK324 := Aside0.mk (hbox); have GW324 := Aside0.mk ((bz hg : w.heap.size ≤ gb324)); replace HB := Aside0.mk (bst hb); have GE324 := GW324; have NB323_324 := Aside0.mk ((bl BK323.out hg : gb323 ≠ gb324)); replace BK323 := Aside0.mk (bb BK323.out hb); have NB324_323 := Aside0.mk NB323_324.out.symm; clear hb hbox hg))
 go_loopg [4] k (fun kq v4 w' => ∃ (x4_1 : Int) (x325000_1 : List Int) (x325001_1 : List Int) (u325000 : Value) (u325001 : Value), v4 = .int .i64 x4_1 ∧ Aside0 (clinkerref07_New.l0 kq a0 x4_1 x325000_1 x325001_1 = some (r1, r2)) ∧ Aside0 (kq ≤ k) ∧ Aside0 (Kd.R (Kd.int .i64) 3 w' w.heap.size (fun k_ => some k_ ≠ (u325001 : Value).ownBlock) u325000 x325000_1) ∧ Aside0 (Kd.R (Kd.int .i64) 3 w' w.heap.size (fun k_ => some k_ ≠ (u325000 : Value).ownBlock) u325001 x325001_1) ∧ Aside0 (w'.heap[gb323]? = some (.cells #[(.slice none 0 0), (.slice none 0 0)] 24 (0, 0))) ∧ Aside0 (w'.heap[gb324]? = some (.cells #[u325000, u325001] 24 (0, 0))) ∧ Aside0 (Below w.heap.size w w'))
 case atStart => exact ⟨(0), (([] : List Int)), (([] : List Int)), (.slice none 0 0), (.slice none 0 0), (by first | rfl | (simp; done) | (simp [*]; done)), H', ⟨Nat.le_refl _⟩, ⟨by first | exact Kd.R_nil _ _ _ _ _ | exact Kd.N_nil _ _ _ _ _ | exact Kd.V_nil _ _ _ _ _ | exact Kd.Q_nil _ _ _ _ _ | exact Kd.S_nil _ _ _ _ _⟩, ⟨by first | exact Kd.R_nil _ _ _ _ _ | exact Kd.N_nil _ _ _ _ _ | exact Kd.V_nil _ _ _ _ _ | exact Kd.Q_nil _ _ _ _ _ | exact Kd.S_nil _ _ _ _ _⟩, ⟨mB BK323.out⟩, ⟨mB BK324.out⟩, ⟨mH⟩⟩
 case round =>
  clear H'
  try clear c2
  try clear p2
  obtain ⟨x4_1, x325000_1, x325001_1, u325000, u325001, rfl, HA, HK1, HO_325000, HO_325001, BK323, BK324, HB⟩ := hrel
  cases gk with
  | zero => exact absurd HA.out (by simp [clinkerref07_New.l0])
  | succ k1 =>
   have H := HA.out
   clear HA
   simp only [clinkerref07_New.l0] at H
   by_cases c4 : x4_1 < a0
   ·
    rw [if_pos c4] at H
    have c4b0 : decide (x4_1 < a0) = true := decide_eq_true c4
    clear c4
    by_cases c5 : x4_1 < 64
    ·
     rw [if_pos c5] at H
     have c5b0 : decide (x4_1 < 64) = true := decide_eq_true c5
     clear c5
     by_cases c6 : x325000_1.length < 17592186044416
     ·
      rw [if_pos c6] at H
      have LMc6 := Aside0.mk c6
      clear c6
      obtain ⟨y325, hy325⟩ : ∃ y_ : List Int, y_ = (x325000_1 ++ [(-1)]) := ⟨_, rfl⟩
      replace H : (if x325001_1.length < 17592186044416 then (clinkerref07_New.l0 k1 a0 (wrap64 (x4_1 + 1)) y325 (x325001_1 ++ [(-1)])) else (none)) = some (r1, r2) := by first | (rw [hy325]; with_reducible exact H) | (have H2_ := (Option.bind_some _ _).symm.trans H; rw [hy325]; with_reducible exact H2_) | (have H2_ := (Option.bind_some _ _).symm.trans H; with_reducible exact H2_) | with_reducible exact H | (rw [hy325]; exact H) | exact H
      have Ny325 := Aside0.mk hy325
      clear hy325
      by_cases c7 : x325001_1.length < 17592186044416
      ·
       rw [if_pos c7] at H
       have LMc7 := Aside0.mk c7
       clear c7
       obtain ⟨y328, hy328⟩ : ∃ y_ : List Int, y_ = (x325001_1 ++ [(-1)]) := ⟨_, rfl⟩
       replace H : (clinkerref07_New.l0 k1 a0 (wrap64 (x4_1 + 1)) y325 y328) = some (r1, r2) := by first | (rw [hy328]; with_reducible exact H) | (have H2_ := (Option.bind_some _ _).symm.trans H; rw [hy328]; with_reducible exact H2_) | (have H2_ := (Option.bind_some _ _).symm.trans H; with_reducible exact H2_) | with_reducible exact H | (rw [hy328]; exact H) | exact H
       have Ny328 := Aside0.mk hy328
       clear hy328
       have H' := Aside0.mk H
       clear H
       have hnb8 := NB324_323.out
       have hnc8 := NB323_324.out
       obtain ⟨hcz9_0, hcz9_1, hfz9_0, hfz9_1⟩ := kc2 BK324.out
       go_wp2_with (first | ((with_reducible refine gate_builtin (b := .append) (xs := #[.tmp 15, .tmp 16]) rfl ?_); at_builtin; refine Kd.R_append (Kd.int .i64) (w0 := w) w.heap.size rfl (.tmp 15) (.tmp 16) 22 3 (.int .i64 0) 8 rfl Try.underlying22 info3 rfl (by decide) (by omega) u325000 x325000_1 (-1) [.int .i64 (-1)] (fun k_ => some k_ ≠ (u325001 : Value).ownBlock) (fun _ => False) rfl rfl ?aP (fun _ hk => hk.elim) ?aF ?aO ?aB ?aS ?aL ?_; (case aP => exact rfl); (case aB => exact (by repeat (first | (with_reducible first | exact HB.out | apply lA | apply lN | apply lD | refine lS ?_ GE323.out | refine lS ?_ GE324.out) | exact HB.out))); (case aF => exact (fun k_ hk => Kd.fresh' (Kd.R_lt (mR HO_325001.out)) k_ hk)); (case aO => exact (mR HO_325000.out)); (case aS => exact bsz); (case aL => have := LMc6.out; omega); intro v326 w10 ho hb hg hat; rw [← Ny325.out] at ho; have n0_ := Aside0.mk (Kd.R_after (ok := (fun _ => True)) (by (with_reducible repeat (first | apply rA | apply rN | apply rD)); exact Kd.R_mono HO_325001.out (fun _ hk => ⟨trivial, hk⟩)) hg hat); have n1_ := Aside0.mk (bg BK323.out hg (Kd.R_ne HO_325000.out BK323.out (by decide))); have n2_ := Aside0.mk (bg BK324.out hg (Kd.R_ne HO_325000.out BK324.out (by decide))); have n3_ := Aside0.mk (hb); have n4_ := Aside0.mk (ho); clear HO_325001; clear BK323; clear BK324; clear HB; clear HO_325000; have HO_325001 := n0_; have BK323 := n1_; have BK324 := n2_; have HB := n3_; have HO327 := n4_; clear n0_ n1_ n2_ n3_ n4_; clear ho hb hg hat; obtain ⟨Ao11, co11, eo11⟩ := Kd.R_slice HO327.out; subst eo11; obtain ⟨hcz12_0, hcz12_1, hfz12_0, hfz12_1⟩ := kc2 BK324.out) | ((with_reducible refine gate_builtin (b := .append) (xs := #[.tmp 20, .tmp 21]) rfl ?_); at_builtin; refine Kd.R_append (Kd.int .i64) (w0 := w) w.heap.size rfl (.tmp 20) (.tmp 21) 22 3 (.int .i64 0) 8 rfl Try.underlying22 info3 rfl (by decide) (by omega) u325001 x325001_1 (-1) [.int .i64 (-1)] (fun k_ => some k_ ≠ (.slice Ao11 y325.length co11 : Value).ownBlock) (fun _ => False) rfl (by first | (go_simp; done) | (go_simp; rfl)) ?aP (fun _ hk => hk.elim) ?aF ?aO ?aB ?aS ?aL ?_; (case aP => exact rfl); (case aB => exact (by repeat (first | (with_reducible first | exact HB.out | apply lA | apply lN | apply lD | refine lS ?_ GE323.out | refine lS ?_ GE324.out) | exact HB.out))); (case aF => exact (fun k_ hk => Kd.fresh' (Kd.R_lt (by (with_reducible repeat (first | apply rA | apply rN | apply rD)); exact (Kd.R_mono (Kd.R_far (p := ⟨gb324, 0, none⟩) (Kd.R_types HO327.out BK324.out (by decide)) (fun _ hk => hk.2) _) (fun _ h_ => h_.1)))) k_ hk)); (case aO => exact (by (with_reducible repeat (first | apply rA | apply rN | apply rD)); exact Kd.R_mono (Kd.R_far (p := ⟨gb324, 0, none⟩) (Kd.R_types HO_325001.out BK324.out (by decide)) (fun _ hk => hk.2) _) (fun _ hk => hk.1.2))); (case aS => exact bsz); (case aL => have := LMc7.out; omega); intro v329 w13 ho hb hg hat; rw [← Ny328.out] at ho; have n0_ := Aside0.mk (blk_grown (g := gb323) (o := .cells #[.slice none 0 0, .slice none 0 0] 24 (0, 0)) (by (with_reducible repeat (first | apply bN | apply bD | apply bA)); refine blk_far ?_ NB323_324.out _; (with_reducible repeat (first | apply bN | apply bD | apply bA)); exact BK323.out) hg (Kd.R_ne HO_325001.out BK323.out (by decide))); have n1_ := Aside0.mk (blk_grown (g := gb324) (o := .cells #[.slice Ao11 y325.length co11, u325001] 24 (0, 0)) (by (with_reducible repeat (first | apply bN | apply bD | apply bA)); refine blk_put (cs := #[u325000, u325001]) ?_ 0 _ rfl; (with_reducible repeat (first | apply bN | apply bD | apply bA)); exact BK324.out) hg (Kd.R_ne HO_325001.out BK324.out (by decide))); have n2_ := Aside0.mk (Kd.R_after (ok := (fun _ => True)) (by (with_reducible repeat (first | apply rA | apply rN | apply rD)); exact Kd.R_mono (Kd.R_far (p := ⟨gb324, 0, none⟩) (Kd.R_types HO327.out BK324.out (by decide)) (fun _ hk => hk.2) _) (fun _ hk => ⟨trivial, hk.1⟩)) hg hat); have n3_ := Aside0.mk (hb); have n4_ := Aside0.mk (ho); clear BK323; clear BK324; clear HO327; clear HB; clear HO_325001; have BK323 := n0_; have BK324 := n1_; have HO327 := n2_; have HB := n3_; have HO330 := n4_; clear n0_ n1_ n2_ n3_ n4_; clear ho hb hg hat; obtain ⟨Ao14, co14, eo14⟩ := Kd.R_slice HO330.out; subst eo14; obtain ⟨hcz15_0, hcz15_1, hfz15_0, hfz15_1⟩ := kc2 BK324.out))
       go_roundg k1
       case measure => have := HK1.out; omega
       case rel => exact ⟨(wrap64 (x4_1 + 1)), (y325), (y328), (.slice Ao11 y325.length co11), (.slice Ao14 y328.length co14), (by first | rfl | (simp; done) | (simp [*]; done)), H', ⟨by have := HK1.out; omega⟩, ⟨by (with_reducible repeat (first | apply rA | apply rN | apply rD)); exact Kd.R_mono (Kd.R_far (p := ⟨gb324, 1, none⟩) (Kd.R_types HO327.out BK324.out (by decide)) (fun _ hk => hk.2) _) (fun _ hk => hk.1.2)⟩, ⟨by (with_reducible repeat (first | apply rA | apply rN | apply rD)); exact Kd.R_mono (Kd.R_far (p := ⟨gb324, 1, none⟩) (Kd.R_types HO330.out BK324.out (by decide)) (fun _ hk => hk.2) _) (fun _ hk => hk.1)⟩, ⟨by (with_reducible repeat (first | apply bN | apply bD | apply bA)); refine blk_far ?_ NB323_324.out _; (with_reducible repeat (first | apply bN | apply bD | apply bA)); exact BK323.out⟩, ⟨by (with_reducible repeat (first | apply bN | apply bD | apply bA)); refine blk_put (cs := #[.slice Ao11 y325.length co11, u325001]) ?_ 1 _ rfl; (with_reducible repeat (first | apply bN | apply bD | apply bA)); exact BK324.out⟩, ⟨mH⟩⟩
      ·
       rw [if_neg c7] at H
       exact absurd H (by simp)
     ·
      rw [if_neg c6] at H
      exact absurd H (by simp)
    ·
     rw [if_neg c5] at H
     have c5b0 : decide (x4_1 < 64) = false := decide_eq_false c5
     clear c5
     simp only [Option.some.injEq, Prod.mk.injEq] at H
     obtain ⟨rfl, rfl⟩ := H
     have hnb16 := NB324_323.out
     have hnc16 := NB323_324.out
     obtain ⟨hcz17_0, hcz17_1, hfz17_0, hfz17_1⟩ := kc2 BK324.out
     obtain ⟨Ao18, co18, eo18⟩ := Kd.R_slice HO_325000.out
     subst eo18
     obtain ⟨hcz19_0, hcz19_1, hfz19_0, hfz19_1⟩ := kc2 BK323.out
     obtain ⟨Ao20, co20, eo20⟩ := Kd.R_slice HO_325001.out
     subst eo20
     go_wp2
     refine bodyPost_ret (results_cell_row rfl _ _ gb323 24 #[.slice Ao18 x325000_1.length co18, .slice Ao20 x325001_1.length co20] (0, 0) _ rfl (by (with_reducible repeat (first | apply bN | apply bD | apply bA)); refine blk_put (cs := #[.slice Ao18 x325000_1.length co18, .slice none 0 0]) ?_ 1 _ rfl; (with_reducible repeat (first | apply bN | apply bD | apply bA)); refine blk_put (cs := #[.slice none 0 0, .slice none 0 0]) ?_ 0 _ rfl; (with_reducible repeat (first | apply bN | apply bD | apply bA)); exact BK323.out) Try.underlying24 rfl (by kernel_rfl)) rfl ?_
     exact ⟨_, _, by first | rfl | (simp [errW_none, errW_some] <;> rfl) | (simp [*, errW_none, errW_some] <;> rfl), by (with_reducible repeat (first | apply rA | apply rN | apply rD)); exact Kd.R_mono (Kd.R_far (p := ⟨gb323, 1, none⟩) (Kd.R_far (p := ⟨gb323, 0, none⟩) (Kd.R_types HO_325000.out BK323.out (by decide)) (fun _ hk => hk.2) _) (fun _ hk => hk.2) _) (fun _ hk => hk.1), by (with_reducible repeat (first | apply rA | apply rN | apply rD)); exact Kd.R_mono (Kd.R_far (p := ⟨gb323, 1, none⟩) (Kd.R_far (p := ⟨gb323, 0, none⟩) (Kd.R_types HO_325001.out BK323.out (by decide)) (fun _ hk => hk.2) _) (fun _ hk => hk.2) _) (fun _ hk => hk.1), by repeat (first | (with_reducible first | exact HB.out | apply lA | apply lN | apply lD | refine lS ?_ GE323.out | refine lS ?_ GE324.out) | exact HB.out)⟩
   ·
    rw [if_neg c4] at H
    have c4b0 : decide (x4_1 < a0) = false := decide_eq_false c4
    clear c4
    simp only [Option.some.injEq, Prod.mk.injEq] at H
    obtain ⟨rfl, rfl⟩ := H
    have hnb21 := NB324_323.out
    have hnc21 := NB323_324.out
    obtain ⟨hcz22_0, hcz22_1, hfz22_0, hfz22_1⟩ := kc2 BK324.out
    obtain ⟨Ao23, co23, eo23⟩ := Kd.R_slice HO_325000.out
    subst eo23
    obtain ⟨hcz24_0, hcz24_1, hfz24_0, hfz24_1⟩ := kc2 BK323.out
    obtain ⟨Ao25, co25, eo25⟩ := Kd.R_slice HO_325001.out
    subst eo25
    go_wp2
    refine bodyPost_ret (results_cell_row rfl _ _ gb323 24 #[.slice Ao23 x325000_1.length co23, .slice Ao25 x325001_1.length co25] (0, 0) _ rfl (by (with_reducible repeat (first | apply bN | apply bD | apply bA)); refine blk_put (cs := #[.slice Ao23 x325000_1.length co23, .slice none 0 0]) ?_ 1 _ rfl; (with_reducible repeat (first | apply bN | apply bD | apply bA)); refine blk_put (cs := #[.slice none 0 0, .slice none 0 0]) ?_ 0 _ rfl; (with_reducible repeat (first | apply bN | apply bD | apply bA)); exact BK323.out) Try.underlying24 rfl (by kernel_rfl)) rfl ?_
    exact ⟨_, _, by first | rfl | (simp [errW_none, errW_some] <;> rfl) | (simp [*, errW_none, errW_some] <;> rfl), by (with_reducible repeat (first | apply rA | apply rN | apply rD)); exact Kd.R_mono (Kd.R_far (p := ⟨gb323, 1, none⟩) (Kd.R_far (p := ⟨gb323, 0, none⟩) (Kd.R_types HO_325000.out BK323.out (by decide)) (fun _ hk => hk.2) _) (fun _ hk => hk.2) _) (fun _ hk => hk.1), by (with_reducible repeat (first | apply rA | apply rN | apply rD)); exact Kd.R_mono (Kd.R_far (p := ⟨gb323, 1, none⟩) (Kd.R_far (p := ⟨gb323, 0, none⟩) (Kd.R_types HO_325001.out BK323.out (by decide)) (fun _ hk => hk.2) _) (fun _ hk => hk.2) _) (fun _ hk => hk.1), by repeat (first | (with_reducible first | exact HB.out | apply lA | apply lN | apply lD | refine lS ?_ GE323.out | refine lS ?_ GE324.out) | exact HB.out)⟩

end Go.Proofs.Ytfolonajajideaa.PAll
