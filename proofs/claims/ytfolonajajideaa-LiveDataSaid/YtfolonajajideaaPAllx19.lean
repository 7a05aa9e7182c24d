/- Written by a program of this session (wip/xp) out of the translation: functions in plain Lean, and proofs that the calls come to these. -/
import Derived.Test.YtfolonajajideaaPAllx0
import Derived.Test.YtfolonajajideaaPAllx17
import Derived.Test.YtfolonajajideaaPAllx18
import Derived.Test.YtfolonajajideaaShort
namespace Go.Proofs.Ytfolonajajideaa.PAll
open Go.RowKit Go.Proofs.YtfolonajajideaaW.PrintWords Go.Proofs.YtfolonajajideaaW.PrintLast Go.Proofs.YtfolonajajideaaW.PrintMore
attribute [local go_sem] max2_int min2_int max_two min_two max_three min_three max_four min_four   -- for this text's walks alone
set_option linter.unusedVariables false
set_option linter.unusedSimpArgs false

/-! ### clinkerref07_Replay: function 12 -/
def clinkerref07_Replay.l0 : Nat → List (S44) → Int → Int → List Int → List Int → Option (List Int × List Int × Int)
 | 0, _, _, _, _, _ => none
 | k + 1, x7, x8, x9, x356000, x356001 => if x9 < (x7.length : Int) then (if 0 ≤ x9 then ((clinkerref07_Apply.f k x356000 x356001 ((rd_T44 x7 x9).f0) ((rd_T44 x7 x9).f1.f0) ((rd_T44 x7 x9).f1.f1) ((rd_T44 x7 x9).f1.f2) ((rd_T44 x7 x9).f1.f3)).bind fun bt360 => (clinkerref07_Replay.l0 k x7 (mx x8 (wrap64 (((rd_T44 x7 x9).f1.f1) + 1))) (wrap64 (x9 + 1)) bt360.1 bt360.2)) else (none)) else (some (x356000, x356001, x8))
def clinkerref07_Replay.f (k : Nat) (l0_0 : List (S62)) (a0_1 : Bool) (a0_2 : Bool) (a0_3 : Int) (a1 : Int) : Option (List Int × List Int × Int) := (clinkerref07_New.f k a1).bind fun bt349 => ((clinkerref06_All.f k l0_0 a0_1 a0_2 a0_3).bind fun t356 => (clinkerref07_Replay.l0 k t356 0 0 bt349.1 bt349.2))
theorem clinkerref07_Replay.mono_l : ∀ k, (∀ y0 y1 y2 y3 y4, LeO (clinkerref07_Replay.l0 k y0 y1 y2 y3 y4) (clinkerref07_Replay.l0 (k + 1) y0 y1 y2 y3 y4))
 | 0 => fun _ _ _ _ _ r h => by simp [clinkerref07_Replay.l0] at h
 | k + 1 => by
  have ih0 := clinkerref07_Replay.mono_l k
  ·
   intro y0 y1 y2 y3 y4
   unfold clinkerref07_Replay.l0
   repeat' first
   | (with_reducible exact ih0 _ _ _ _ _)
   | (with_reducible exact clinkerref06_All.mono _ _ _ _ _)
   | (with_reducible exact clinkerref07_Apply.mono _ _ _ _ _ _ _ _)
   | (with_reducible exact clinkerref07_New.mono _ _)
   | (with_reducible exact LeO.refl _)
   | (with_reducible exact LeO.none _)
   | (with_reducible refine LeO.ite ?_ ?_)
   | (with_reducible refine LeO.bind ?_ (fun _ => ?_))
   | exact ih0 _ _ _ _ _
   | exact clinkerref06_All.mono _ _ _ _ _
   | exact clinkerref07_Apply.mono _ _ _ _ _ _ _ _
   | exact clinkerref07_New.mono _ _
   | exact LeO.none _
   | refine LeO.ite ?_ ?_
   | refine LeO.bind ?_ (fun _ => ?_)
theorem clinkerref07_Replay.mono : ∀ a0 a1 a2 a3 a4 k, LeO (clinkerref07_Replay.f k a0 a1 a2 a3 a4) (clinkerref07_Replay.f (k + 1) a0 a1 a2 a3 a4) := by
 intro a0 a1 a2 a3 a4 k
 have ih0 := clinkerref07_Replay.mono_l k
 unfold clinkerref07_Replay.f
 repeat' first
   | (with_reducible exact ih0 _ _ _ _ _)
   | (with_reducible exact clinkerref06_All.mono _ _ _ _ _)
   | (with_reducible exact clinkerref07_Apply.mono _ _ _ _ _ _ _ _)
   | (with_reducible exact clinkerref07_New.mono _ _)
   | (with_reducible exact LeO.refl _)
   | (with_reducible exact LeO.none _)
   | (with_reducible refine LeO.ite ?_ ?_)
   | (with_reducible refine LeO.bind ?_ (fun _ => ?_))
   | exact ih0 _ _ _ _ _
   | exact clinkerref06_All.mono _ _ _ _ _
   | exact clinkerref07_Apply.mono _ _ _ _ _ _ _ _
   | exact clinkerref07_New.mono _ _
   | exact LeO.none _
   | refine LeO.ite ?_ ?_
   | refine LeO.bind ?_ (fun _ => ?_)
set_option maxHeartbeats 8000000 in
set_option maxRecDepth 100000 in
theorem clinkerref07_Replay.calls (k : Nat) (A0_0 : Option Addr) (c0_0 : Nat) (l0_0 : List (S62)) (a0_1 : Bool) (a0_2 : Bool) (a0_3 : Int) (a1 : Int) (r1 : List Int) (r2 : List Int) (r3 : Int) (w : World) (hr0_0 : Kd.C k62 w A0_0 l0_0.length l0_0) (hc0_0 : l0_0.length ≤ c0_0) (h : clinkerref07_Replay.f k l0_0 a0_1 a0_2 a0_3 a1 = some (r1, r2, r3)) :
  Calls Try.prog 12 #[.agg #[.slice A0_0 l0_0.length c0_0, .bool a0_1, .bool a0_2, .int .i64 a0_3], .int .i64 a1] w fun e w' => ∃ v0_ v1_ : Value, e = .returned (.tuple #[.agg #[v0_, v1_], .int .i64 r3]) ∧ Kd.R (Kd.int .i64) 3 w' w.heap.size (fun k_ => some k_ ≠ (v1_ : Value).ownBlock) v0_ r1 ∧ Kd.R (Kd.int .i64) 3 w' w.heap.size (fun k_ => some k_ ≠ (v0_ : Value).ownBlock) v1_ r2 ∧ Below w.heap.size w w' := by
 have hu32 := Try.underlying32
 have hu24 := Try.underlying24
 have hu44 := Try.underlying44
 have HR0_0 := Aside0.mk hr0_0
 have HC0_0 := Aside0.mk hc0_0
 clear hr0_0 hc0_0
 have HB := Aside0.mk (Below.refl w.heap.size w)
 have H : ((clinkerref07_New.f k a1).bind fun bt349 => ((clinkerref06_All.f k l0_0 a0_1 a0_2 a0_3).bind fun t356 => (clinkerref07_Replay.l0 k t356 0 0 bt349.1 bt349.2))) = some (r1, r2, r3) := h
 clear h
 replace H := Option.bind_eq_some_iff.mp H
 obtain ⟨⟨t349, t352⟩, A30, H⟩ := H
 replace H : ((clinkerref06_All.f k l0_0 a0_1 a0_2 a0_3).bind fun t356 => (clinkerref07_Replay.l0 k t356 0 0 t349 t352)) = some (r1, r2, r3) := H
 have A3 := Aside0.mk A30
 clear A30
 replace H := Option.bind_eq_some_iff.mp H
 obtain ⟨t356, A40, H⟩ := H
 replace H : (clinkerref07_Replay.l0 k t356 0 0 t349 t352) = some (r1, r2, r3) := H
 have A4 := Aside0.mk A40
 clear A40
 have H' := Aside0.mk H
 clear H
 go_enter Try.func12, Try.ntmps12
 go_wp2_with (first | ((with_reducible refine gate_dst (N := 2) rfl ?_); refine box_event ?hg (N := 2) ?hd (cs := #[.slice A0_0 l0_0.length c0_0, .bool a0_1, .bool a0_2, .int .i64 a0_3]) (t := 32) ?hr ?_; (case hd => rfl); (case hg => rfl); (case hr => first | (go_simp; done) | (go_simp; rfl)); intro gb347 hg w5 hbox hb; have BK347 := Aside0.mk (hbox); have GW347 := Aside0.mk ((bz hg : w.heap.size ≤ gb347)); replace HB := Aside0.mk (bst hb); have GE347 := GW347; clear hb hbox hg) | ((with_reducible refine gate_dst (N := 4) rfl ?_); refine box_event ?hg (N := 4) ?hd (cs := #[.slice none 0 0, .slice none 0 0]) (t := 24) ?hr ?_; (case hd => rfl); (case hg => rfl); (case hr => first | (go_simp; done) | (go_simp; rfl)); intro gb348 hg w6 hbox hb; have BK348 := Aside0.mk (hbox); have GW348 := Aside0.mk ((bz hg : w.heap.size ≤ gb348)); replace HB := Aside0.mk (bst hb); have GE348 := GW348; have NB347_348 := Aside0.mk ((bl BK347.out hg : gb347 ≠ gb348)); replace BK347 := Aside0.mk (bb BK347.out hb); have NB348_347 := Aside0.mk NB347_348.out.symm; clear hb hbox hg) | ((with_reducible refine gate_callee (f := 27) rfl ?_); refine goesL_ (some 11) rfl rfl Try.func27 (by kernel_rfl) rfl #[.int .i64 a1] rfl (by (try simp only [List.map_toArray, List.map_cons, List.map_nil]); first | done | rfl | (simp only [List.length_drop, List.length_take]; rfl)) ?_; (with_reducible refine (clinkerref07_New.calls k a1 t349 t352 _ A3.out).mono ?_); rintro e w7 ⟨v350, v353, rfl, ho0, ho1, hb⟩; refine ⟨_, rfl, ?_⟩; have HO351 := Aside0.mk (Kd.R_lower ho0 bsz); have HO354 := Aside0.mk (Kd.R_lower ho1 bsz); replace BK347 := Aside0.mk (bb BK347.out hb); replace BK348 := Aside0.mk (bb BK348.out hb); replace HB := Aside0.mk (bst hb); (try clear hb); (try clear hb2); (try clear hk); (try clear hi); (try clear ho0); (try clear ho1)) | ((with_reducible refine gate_dst (N := 6) rfl ?_); refine box_event ?hg (N := 6) ?hd (cs := #[.slice none 0 0, .slice none 0 0]) (t := 24) ?hr ?_; (case hd => rfl); (case hg => rfl); (case hr => first | (go_simp; done) | (go_simp; rfl)); intro gb355 hg w8 hbox hb; replace HO351 := Aside0.mk (Kd.R_below (mR HO351.out) hb); replace HO354 := Aside0.mk (Kd.R_below (mR HO354.out) hb); have BK355 := Aside0.mk (hbox); have GW355 := Aside0.mk ((bz hg : w.heap.size ≤ gb355)); replace HB := Aside0.mk (bst hb); have GE355 := GW355; have NB347_355 := Aside0.mk ((bl BK347.out hg : gb347 ≠ gb355)); replace BK347 := Aside0.mk (bb BK347.out hb); have NB355_347 := Aside0.mk NB347_355.out.symm; have NB348_355 := Aside0.mk ((bl BK348.out hg : gb348 ≠ gb355)); replace BK348 := Aside0.mk (bb BK348.out hb); have NB355_348 := Aside0.mk NB348_355.out.symm; clear hb hbox hg; obtain ⟨Ao9, co9, eo9⟩ := Kd.R_slice HO351.out; subst eo9; have hnb10 := NB355_347.out; have hnc10 := NB347_355.out; have hnb11 := NB355_348.out; have hnc11 := NB348_355.out; obtain ⟨hcz12_0, hcz12_1, hfz12_0, hfz12_1⟩ := kc2 BK355.out; obtain ⟨Ao13, co13, eo13⟩ := Kd.R_slice HO354.out; subst eo13; have hnb14 := NB347_348.out; have hnc14 := NB348_347.out; obtain ⟨hcz15_0, hcz15_1, hcz15_2, hcz15_3, hfz15_0, hfz15_1, hfz15_2, hfz15_3⟩ := kc4 BK347.out) | ((with_reducible refine gate_callee (f := 15) rfl ?_); refine goesL_ (some 13) rfl rfl Try.func15 (by kernel_rfl) rfl #[.agg #[.slice A0_0 l0_0.length c0_0, .bool a0_1, .bool a0_2, .int .i64 a0_3]] rfl (by (try simp only [List.map_toArray, List.map_cons, List.map_nil]); first | done | rfl | (simp only [List.length_drop, List.length_take]; rfl)) ?_; (with_reducible refine (clinkerref06_All.calls k _ _ l0_0 a0_1 a0_2 a0_3 t356 _ ?side1 ?side2 A4.out).mono ?_); (case side1 => exact Kd.C_below HR0_0.out (by repeat (first | (with_reducible first | exact HB.out | apply lA | apply lN | apply lD | refine lS ?_ GE347.out | refine lS ?_ GE348.out | refine lS ?_ GE355.out) | exact HB.out))); (case side2 => exact HC0_0.out); rintro e w16 ⟨v357, rfl, ho0, hb⟩; refine ⟨_, rfl, ?_⟩; have HO358 := Aside0.mk (Kd.N_lower (Kd.N_mono (ok' := fun k_ => some k_ ≠ (.slice Ao9 t349.length co9 : Value).ownBlock ∧ some k_ ≠ (.slice Ao13 t352.length co13 : Value).ownBlock ∧ k_ ≠ gb347 ∧ k_ ≠ gb348 ∧ k_ ≠ gb355) ho0 (fun k_ hk_ => ⟨(Kd.fresh' (Kd.R_lt (by (with_reducible repeat (first | apply rA | apply rN | apply rD)); exact (Kd.R_mono (Kd.R_far (p := ⟨gb355, 1, none⟩) (Kd.R_far (p := ⟨gb355, 0, none⟩) (Kd.R_types HO351.out BK355.out (by decide)) (fun _ hk => hk.2) _) (fun _ hk => hk.2) _) (fun _ h_ => h_.1)))) k_ hk_), (Kd.fresh' (Kd.R_lt (by (with_reducible repeat (first | apply rA | apply rN | apply rD)); exact (Kd.R_mono (Kd.R_far (p := ⟨gb355, 1, none⟩) (Kd.R_far (p := ⟨gb355, 0, none⟩) (Kd.R_types HO354.out BK355.out (by decide)) (fun _ hk => hk.2) _) (fun _ hk => hk.2) _) (fun _ h_ => h_.1)))) k_ hk_), (Kd.freshB (g := gb347) (o := .cells #[.slice A0_0 l0_0.length c0_0, .bool a0_1, .bool a0_2, .int .i64 a0_3] 32 (0, 0)) (by (with_reducible repeat (first | apply bN | apply bD | apply bA)); refine blk_far ?_ NB347_355.out _; (with_reducible repeat (first | apply bN | apply bD | apply bA)); refine blk_far ?_ NB347_355.out _; (with_reducible repeat (first | apply bN | apply bD | apply bA)); exact BK347.out) k_ hk_), (Kd.freshB (g := gb348) (o := .cells #[.slice none 0 0, .slice none 0 0] 24 (0, 0)) (by (with_reducible repeat (first | apply bN | apply bD | apply bA)); refine blk_far ?_ NB348_355.out _; (with_reducible repeat (first | apply bN | apply bD | apply bA)); refine blk_far ?_ NB348_355.out _; (with_reducible repeat (first | apply bN | apply bD | apply bA)); exact BK348.out) k_ hk_), (Kd.freshB (g := gb355) (o := .cells #[.slice Ao9 t349.length co9, .slice Ao13 t352.length co13] 24 (0, 0)) (by (with_reducible repeat (first | apply bN | apply bD | apply bA)); refine blk_put (cs := #[.slice Ao9 t349.length co9, .slice none 0 0]) ?_ 1 _ rfl; (with_reducible repeat (first | apply bN | apply bD | apply bA)); refine blk_put (cs := #[.slice none 0 0, .slice none 0 0]) ?_ 0 _ rfl; (with_reducible repeat (first | apply bN | apply bD | apply bA)); exact BK355.out) k_ hk_)⟩)) bsz); replace HO351 := Aside0.mk (Kd.R_below (by (with_reducible repeat (first | apply rA | apply rN | apply rD)); exact (Kd.R_mono (Kd.R_far (p := ⟨gb355, 1, none⟩) (Kd.R_far (p := ⟨gb355, 0, none⟩) (Kd.R_types HO351.out BK355.out (by decide)) (fun _ hk => hk.2) _) (fun _ hk => hk.2) _) (fun _ h_ => h_.1))) hb); replace HO354 := Aside0.mk (Kd.R_below (by (with_reducible repeat (first | apply rA | apply rN | apply rD)); exact (Kd.R_mono (Kd.R_far (p := ⟨gb355, 1, none⟩) (Kd.R_far (p := ⟨gb355, 0, none⟩) (Kd.R_types HO354.out BK355.out (by decide)) (fun _ hk => hk.2) _) (fun _ hk => hk.2) _) (fun _ h_ => h_.1))) hb); replace BK347 := Aside0.mk (blk_below (g := gb347) (o := .cells #[.slice A0_0 l0_0.length c0_0, .bool a0_1, .bool a0_2, .int .i64 a0_3] 32 (0, 0)) (by (with_reducible repeat (first | apply bN | apply bD | apply bA)); refine blk_far ?_ NB347_355.out _; (with_reducible repeat (first | apply bN | apply bD | apply bA)); refine blk_far ?_ NB347_355.out _; (with_reducible repeat (first | apply bN | apply bD | apply bA)); exact BK347.out) hb); replace BK348 := Aside0.mk (blk_below (g := gb348) (o := .cells #[.slice none 0 0, .slice none 0 0] 24 (0, 0)) (by (with_reducible repeat (first | apply bN | apply bD | apply bA)); refine blk_far ?_ NB348_355.out _; (with_reducible repeat (first | apply bN | apply bD | apply bA)); refine blk_far ?_ NB348_355.out _; (with_reducible repeat (first | apply bN | apply bD | apply bA)); exact BK348.out) hb); replace BK355 := Aside0.mk (blk_below (g := gb355) (o := .cells #[.slice Ao9 t349.length co9, .slice Ao13 t352.length co13] 24 (0, 0)) (by (with_reducible repeat (first | apply bN | apply bD | apply bA)); refine blk_put (cs := #[.slice Ao9 t349.length co9, .slice none 0 0]) ?_ 1 _ rfl; (with_reducible repeat (first | apply bN | apply bD | apply bA)); refine blk_put (cs := #[.slice none 0 0, .slice none 0 0]) ?_ 0 _ rfl; (with_reducible repeat (first | apply bN | apply bD | apply bA)); exact BK355.out) hb); replace HB := Aside0.mk (bst hb); (try clear hb); (try clear hb2); (try clear hk); (try clear hi); (try clear ho0)))
 go_loopg [8, 9] k (fun kq v8 v9 w' => ∃ (x8_1 : Int) (x9_1 : Int) (x356000_1 : List Int) (x356001_1 : List Int) (u356000 : Value) (u356001 : Value), v8 = .int .i64 x8_1 ∧ v9 = .int .i64 x9_1 ∧ Aside0 (clinkerref07_Replay.l0 kq t356 x8_1 x9_1 x356000_1 x356001_1 = some (r1, r2, r3)) ∧ Aside0 (kq ≤ k) ∧ Aside0 (Kd.N k44 44 w' w.heap.size (fun k_ => some k_ ≠ (u356000 : Value).ownBlock ∧ some k_ ≠ (u356001 : Value).ownBlock ∧ k_ ≠ gb347 ∧ k_ ≠ gb348 ∧ k_ ≠ gb355) v357 t356) ∧ Aside0 (Kd.R (Kd.int .i64) 3 w' w.heap.size (fun k_ => some k_ ≠ (u356001 : Value).ownBlock) u356000 x356000_1) ∧ Aside0 (Kd.R (Kd.int .i64) 3 w' w.heap.size (fun k_ => some k_ ≠ (u356000 : Value).ownBlock) u356001 x356001_1) ∧ Aside0 (w'.heap[gb347]? = some (.cells #[(.slice A0_0 l0_0.length c0_0), .bool a0_1, .bool a0_2, .int .i64 a0_3] 32 (0, 0))) ∧ Aside0 (w'.heap[gb348]? = some (.cells #[(.slice none 0 0), (.slice none 0 0)] 24 (0, 0))) ∧ Aside0 (w'.heap[gb355]? = some (.cells #[u356000, u356001] 24 (0, 0))) ∧ Aside0 (Below w.heap.size w w'))
 case atStart => exact ⟨(0), (0), (t349), (t352), (.slice Ao9 t349.length co9), (.slice Ao13 t352.length co13), (by first | rfl | (simp; done) | (simp [*]; done)), (by first | rfl | (simp; done) | (simp [*]; done)), H', ⟨Nat.le_refl _⟩, ⟨mN HO358.out⟩, ⟨mR HO351.out⟩, ⟨mR HO354.out⟩, ⟨mB BK347.out⟩, ⟨mB BK348.out⟩, ⟨mB BK355.out⟩, ⟨mH⟩⟩
 case round =>
  clear H'
  try clear c1
  try clear c2
  try clear p2
  try clear c10
  try clear c11
  try clear c12
  try clear c14
  try clear c15
  try clear hcz12_0
  try clear hcz12_1
  try clear hcz15_0
  try clear hcz15_1
  try clear hcz15_2
  try clear hcz15_3
  try clear hfz12_0
  try clear hfz12_1
  try clear hfz15_0
  try clear hfz15_1
  try clear hfz15_2
  try clear hfz15_3
  obtain ⟨x8_1, x9_1, x356000_1, x356001_1, u356000, u356001, rfl, rfl, HA, HK1, HO_7, HO_356000, HO_356001, BK347, BK348, BK355, HB⟩ := hrel
  cases gk with
  | zero => exact absurd HA.out (by simp [clinkerref07_Replay.l0])
  | succ k1 =>
   have H := HA.out
   clear HA
   simp only [clinkerref07_Replay.l0] at H
   by_cases c17 : x9_1 < (t356.length : Int)
   ·
    rw [if_pos c17] at H
    have c17b0 : decide (x9_1 < (t356.length : Int)) = true := decide_eq_true c17
    clear c17
    by_cases c18 : 0 ≤ x9_1
    ·
     rw [if_pos c18] at H
     have c18b0 : decide (0 ≤ x9_1) = true := decide_eq_true c18
     clear c18
     replace H := Option.bind_eq_some_iff.mp H
     obtain ⟨⟨t360, t363⟩, A190, H⟩ := H
     replace H : (clinkerref07_Replay.l0 k1 t356 (mx x8_1 (wrap64 (((rd_T44 t356 x9_1).f1.f1) + 1))) (wrap64 (x9_1 + 1)) t360 t363) = some (r1, r2, r3) := H
     have A19 := Aside0.mk A190
     clear A190
     obtain ⟨ji20, hji20⟩ : ∃ j_ : Int, (mx x8_1 (wrap64 (((rd_T44 t356 x9_1).f1.f1) + 1))) = j_ := ⟨_, rfl⟩
     replace H : (clinkerref07_Replay.l0 k1 t356 ji20 (wrap64 (x9_1 + 1)) t360 t363) = some (r1, r2, r3) := by first | (rw [hji20] at H; exact H) | (simp only [hji20] at H ⊢; exact H)
     (try rw [hji20] at A19)
     have hji20_ : (if x8_1 < (wrap64 (((rd_T44 t356 x9_1).f1.f1) + 1)) then (wrap64 (((rd_T44 t356 x9_1).f1.f1) + 1)) else x8_1) = ji20 := hji20
     have H' := Aside0.mk H
     clear H
     obtain ⟨Ao21, co21, eo21⟩ := Kd.N_slice HO_7.out
     subst eo21
     try go_wp2
     replace HO_7 := Aside0.mk (Kd.N_drew HO_7.out)
     replace HO_356000 := Aside0.mk (Kd.R_drew HO_356000.out)
     replace HO_356001 := Aside0.mk (Kd.R_drew HO_356001.out)
     replace BK347 := Aside0.mk (bD BK347.out)
     replace BK348 := Aside0.mk (bD BK348.out)
     replace BK355 := Aside0.mk (bD BK355.out)
     replace HB := Aside0.mk (lD HB.out)
     have p359 : 0 ≤ (x9_1 : Int) := of_decide_eq_true (by first | (with_reducible assumption) | assumption)
     have q359 : x9_1 < (t356.length : Int) := of_decide_eq_true (by first | (with_reducible assumption) | assumption)
     obtain ⟨ad359, A359_3, c359_3, A359_4, c359_4, e359, hx359_0, hx359_1, hx359_2, hx359_3, hx359_4, hl359_3, hi359_3, hl359_4, hi359_4⟩ := at_T44 (Kd.N_reads' HO_7.out).2.2 x9_1 p359 q359
     cases e359
     obtain ⟨ce359, hce359, hMe359, hcc359⟩ := Kd.N_get HO_7.out z44 x9_1 p359 (by first | exact q359 | exact of_decide_eq_true (by first | (with_reducible assumption) | assumption) | (have e_ := (Kd.N_reads' HO_7.out).1; omega))
     obtain ⟨ua359_3, uc359_3, ua359_4, uc359_4, rfl, ul359_3, ge359_3, ul359_4, ge359_4⟩ := k44_openF hMe359
     have hv359_3 := hcc359 3 _ rfl
     rw [add_field _ _ 3 (by omega)] at hv359_3
     replace hv359_3 := Option.some.inj (hv359_3.symm.trans hx359_3)
     injection hv359_3 with hva_ hvn_ hvc_
     rw [hva_] at ge359_3
     rw [hvc_] at ul359_3
     have HL359_3 := Aside0.mk (show Kd.V (Kd.int .i64) 3 _ w.heap.size _ _ ((rd_T44 t356 x9_1).f1.f2) from Kd.V_mk ul359_3 ge359_3)
     clear hva_ hvn_ hvc_ ge359_3 ul359_3
     have hv359_4 := hcc359 4 _ rfl
     rw [add_field _ _ 4 (by omega)] at hv359_4
     replace hv359_4 := Option.some.inj (hv359_4.symm.trans hx359_4)
     injection hv359_4 with hva_ hvn_ hvc_
     rw [hva_] at ge359_4
     rw [hvc_] at ul359_4
     have HL359_4 := Aside0.mk (show Kd.V (Kd.int .i64) 3 _ w.heap.size _ _ ((rd_T44 t356 x9_1).f1.f3) from Kd.V_mk ul359_4 ge359_4)
     clear hva_ hvn_ hvc_ ge359_4 ul359_4
     clear hcc359 hce359
     have HR359_3 := Aside0.mk hi359_3
     have HC359_3 := Aside0.mk hl359_3
     clear hi359_3 hl359_3
     have HR359_4 := Aside0.mk hi359_4
     have HC359_4 := Aside0.mk hl359_4
     clear hi359_4 hl359_4
     replace p359 := eq_true p359
     replace q359 := eq_true q359
     obtain ⟨Ao23, co23, eo23⟩ := Kd.R_slice HO_356000.out
     (first | subst eo23 | (injection eo23 with f1_ f2_ f3_; have f4_ := f1_.symm; have f5_ := f3_.symm; clear f1_ f2_ f3_; subst f4_; subst f5_))
     obtain ⟨Ao24, co24, eo24⟩ := Kd.R_slice HO_356001.out
     (first | subst eo24 | (injection eo24 with f1_ f2_ f3_; have f4_ := f1_.symm; have f5_ := f3_.symm; clear f1_ f2_ f3_; subst f4_; subst f5_))
     refine start_ (n := 7) (S := fun w' => w'.cell? ⟨gb355, 0, none⟩ = some (.slice Ao23 x356000_1.length co23) ∧ w'.cell? ⟨gb355, 1, none⟩ = some (.slice Ao24 x356001_1.length co24) ∧ w'.cell? (ad359.add ((x9_1).toNat * 5)) = some (.int .i64 ((rd_T44 t356 x9_1).f0)) ∧ w'.cell? ⟨(ad359.add ((x9_1).toNat * 5)).block, (ad359.add ((x9_1).toNat * 5)).off + 1, none⟩ = some (.int .i64 ((rd_T44 t356 x9_1).f1.f0)) ∧ w'.cell? ⟨(ad359.add ((x9_1).toNat * 5)).block, (ad359.add ((x9_1).toNat * 5)).off + 2, none⟩ = some (.int .i64 ((rd_T44 t356 x9_1).f1.f1)) ∧ w'.cell? ⟨(ad359.add ((x9_1).toNat * 5)).block, (ad359.add ((x9_1).toNat * 5)).off + 3, none⟩ = some (.slice A359_3 ((rd_T44 t356 x9_1).f1.f2).length c359_3) ∧ w'.cell? ⟨(ad359.add ((x9_1).toNat * 5)).block, (ad359.add ((x9_1).toNat * 5)).off + 4, none⟩ = some (.slice A359_4 ((rd_T44 t356 x9_1).f1.f3).length c359_4)) (ds := [6]) #[false, false, false, false, false, false, false] (by kernel_rfl) rfl rfl ⟨(blk_cell BK355.out 0).trans rfl, (blk_cell BK355.out 1).trans rfl, hx359_0, hx359_1, hx359_2, hx359_3, hx359_4⟩ (fun hHeld => ?_)
     generalize wr.drew = w22 at HO_7 HO_356000 HO_356001 BK347 BK348 BK355 HB HL359_3 HL359_4 HR359_3 HR359_4 hx359_0 hx359_1 hx359_2 hx359_3 hx359_4 hHeld ⊢
     refine pb 1 (some 21) ?_
     refine pb 2 (some 22) ?_
     refine pb 3 (some 23) ?_
     refine tb 0 (some 20) hHeld ?_
     refine tb 4 (some 24) hHeld ?_
     refine one_ (i := 5) (N := some 25) #[true, true, true, true, true, true, false] rfl rfl (by kernel_rfl) (by decide) (fun K hK => ?_)
     refine goes_ Try.func28 (by kernel_rfl) rfl #[.agg #[.slice Ao23 x356000_1.length co23, .slice Ao24 x356001_1.length co24], .agg #[.int .i64 ((rd_T44 t356 x9_1).f0), .int .i64 ((rd_T44 t356 x9_1).f1.f0), .int .i64 ((rd_T44 t356 x9_1).f1.f1), .slice A359_3 ((rd_T44 t356 x9_1).f1.f2).length c359_3, .slice A359_4 ((rd_T44 t356 x9_1).f1.f3).length c359_4]] (by rfl) rfl rfl (by (try simp only [List.map_toArray, List.map_cons, List.map_nil]); first | done | rfl | (simp only [List.length_drop, List.length_take]; rfl)) ?_
     with_reducible refine (clinkerref07_Apply.calls k1 _ _ x356000_1 _ _ x356001_1 ((rd_T44 t356 x9_1).f0) ((rd_T44 t356 x9_1).f1.f0) ((rd_T44 t356 x9_1).f1.f1) _ _ ((rd_T44 t356 x9_1).f1.f2) _ _ ((rd_T44 t356 x9_1).f1.f3) t360 t363 _ ?side1 ?side2 ?side3 ?side4 ?side5 ?side6 ?side7 ?side8 A19.out).mono ?_
     (case side1 => repeat (first | exact (Kd.R_reads' HO_356000.out).2.2 | (with_reducible refine Kd.C_alloc ?_ _) | (with_reducible refine Kd.C_drewN ?_ _) | (with_reducible refine Kd.C_drew ?_)))
     (case side2 => exact (Kd.R_reads' HO_356000.out).2.1)
     (case side3 => repeat (first | exact (Kd.R_reads' HO_356001.out).2.2 | (with_reducible refine Kd.C_alloc ?_ _) | (with_reducible refine Kd.C_drewN ?_ _) | (with_reducible refine Kd.C_drew ?_)))
     (case side4 => exact (Kd.R_reads' HO_356001.out).2.1)
     (case side5 => repeat (first | exact (by repeat (first | (with_reducible exact HR359_3.out) | (with_reducible refine Kd.C_alloc ?_ _) | (with_reducible refine Kd.C_drewN ?_ _) | (with_reducible refine Kd.C_drew ?_) | exact HR359_3.out)) | (with_reducible refine Kd.C_alloc ?_ _) | (with_reducible refine Kd.C_drewN ?_ _) | (with_reducible refine Kd.C_drew ?_)))
     (case side6 => exact HC359_3.out)
     (case side7 => repeat (first | exact (by repeat (first | (with_reducible exact HR359_4.out) | (with_reducible refine Kd.C_alloc ?_ _) | (with_reducible refine Kd.C_drewN ?_ _) | (with_reducible refine Kd.C_drew ?_) | exact HR359_4.out)) | (with_reducible refine Kd.C_alloc ?_ _) | (with_reducible refine Kd.C_drewN ?_ _) | (with_reducible refine Kd.C_drew ?_)))
     (case side8 => exact HC359_4.out)
     rintro e w25 ⟨v361, v364, rfl, ho0, ho1, hb⟩
     have HS2_ := (hb.cell (World.block_lt_of_cell? _ _ (hHeld.2.2.1))).trans (hHeld.2.2.1)
     have HS3_ := (hb.cell (World.block_lt_of_cell? _ _ (hHeld.2.2.2.1))).trans (hHeld.2.2.2.1)
     have HS4_ := (hb.cell (World.block_lt_of_cell? _ _ (hHeld.2.2.2.2.1))).trans (hHeld.2.2.2.2.1)
     have HS5_ := (hb.cell (World.block_lt_of_cell? _ _ (hHeld.2.2.2.2.2.1))).trans (hHeld.2.2.2.2.2.1)
     have HS6_ := (hb.cell (World.block_lt_of_cell? _ _ (hHeld.2.2.2.2.2.2))).trans (hHeld.2.2.2.2.2.2)
     refine ⟨_, rfl, ?_⟩
     replace HO_7 := Aside0.mk (Kd.N_mono (Kd.N_told (Kd.N_told (Kd.N_old (mN HO_7.out) hb) (Kd.R_base ho0)) (Kd.R_base ho1)) (fun _ h_ => h_.1))
     replace HL359_3 := Aside0.mk (Kd.V_mono (Kd.V_told (Kd.V_told (Kd.V_old (mV HL359_3.out) hb) (Kd.R_base ho0)) (Kd.R_base ho1)) (fun _ h_ => h_.1))
     replace HL359_4 := Aside0.mk (Kd.V_mono (Kd.V_told (Kd.V_told (Kd.V_old (mV HL359_4.out) hb) (Kd.R_base ho0)) (Kd.R_base ho1)) (fun _ h_ => h_.1))
     have HO362 := Aside0.mk (Kd.R_lower (Kd.R_new' (Kd.R_new' ho0 (Kd.R_lt (mR HO_356000.out))) (Kd.R_lt (mR HO_356001.out))) bsz)
     have HO365 := Aside0.mk (Kd.R_lower (Kd.R_new' (Kd.R_new' ho1 (Kd.R_lt (mR HO_356000.out))) (Kd.R_lt (mR HO_356001.out))) bsz)
     replace HO_356000 := Aside0.mk (Kd.R_mono (Kd.R_told (Kd.R_told (Kd.R_old (mR HO_356000.out) hb) (Kd.R_base ho0)) (Kd.R_base ho1)) (fun _ h_ => h_.1))
     replace HO_356001 := Aside0.mk (Kd.R_mono (Kd.R_told (Kd.R_told (Kd.R_old (mR HO_356001.out) hb) (Kd.R_base ho0)) (Kd.R_base ho1)) (fun _ h_ => h_.1))
     replace BK347 := Aside0.mk (bb BK347.out hb)
     replace BK348 := Aside0.mk (bb BK348.out hb)
     replace BK355 := Aside0.mk (bb BK355.out hb)
     replace HR359_3 := Aside0.mk (Kd.C_below (by repeat (first | (with_reducible exact HR359_3.out) | (with_reducible refine Kd.C_alloc ?_ _) | (with_reducible refine Kd.C_drewN ?_ _) | (with_reducible refine Kd.C_drew ?_) | exact HR359_3.out)) hb)
     replace HR359_4 := Aside0.mk (Kd.C_below (by repeat (first | (with_reducible exact HR359_4.out) | (with_reducible refine Kd.C_alloc ?_ _) | (with_reducible refine Kd.C_drewN ?_ _) | (with_reducible refine Kd.C_drew ?_) | exact HR359_4.out)) hb)
     replace HB := Aside0.mk (bst hb)
     (try clear hb)
     (try clear hb2)
     (try clear hk)
     (try clear hi)
     (try clear ho0)
     (try clear ho1)
     obtain ⟨Ao26, co26, eo26⟩ := Kd.R_slice HO362.out
     (first | subst eo26 | (injection eo26 with f1_ f2_ f3_; have f4_ := f1_.symm; have f5_ := f3_.symm; clear f1_ f2_ f3_; subst f4_; subst f5_))
     obtain ⟨Ao28, co28, eo28⟩ := Kd.R_slice HO365.out
     (first | subst eo28 | (injection eo28 with f1_ f2_ f3_; have f4_ := f1_.symm; have f5_ := f3_.symm; clear f1_ f2_ f3_; subst f4_; subst f5_))
     refine hK.out _ _ ⟨(blk_cell BK355.out 0).trans rfl, (blk_cell BK355.out 1).trans rfl, HS2_, HS3_, HS4_, HS5_, HS6_⟩ (fun hHeld => ?_)
     clear hK K
     refine na (some 25) ?_
     refine last_ (i := 6) (N := none) #[true, true, true, true, true, true, true] rfl rfl (by kernel_rfl) (by decide) (fun K hK => ?_)
     have hs27 : w25.cell? ⟨gb355, 0, none⟩ = some (.slice Ao23 x356000_1.length co23) := (blk_cell BK355.out 0).trans rfl
     have hfs27 := blk_frozen BK355.out 0
     have hns27_0 := NB347_355.out
     have hns27_1 := NB348_355.out
     have hms27_0 := NB355_347.out
     have hms27_1 := NB355_348.out
     have hs29 : w25.cell? ⟨gb355, 1, none⟩ = some (.slice Ao24 x356001_1.length co24) := (blk_cell BK355.out 1).trans rfl
     have hfs29 := blk_frozen BK355.out 1
     have hns29_0 := NB347_355.out
     have hns29_1 := NB348_355.out
     have hms29_0 := NB355_347.out
     have hms29_1 := NB355_348.out
     refine skip_ (w1 := ?_) (by rfl) rfl ?_ ?_
     rotate_left
     ·
      go_simp
      rfl
     refine hK.out _ _ ?_
     clear hK K
     refine done_ (by kernel_rfl) ?_
     have n0_ : Aside0 (Kd.N k44 44 ((w25.setCell ⟨gb355, 0, none⟩ (.slice Ao26 t360.length co26)).setCell ⟨gb355, 1, none⟩ (.slice Ao28 t363.length co28)) w.heap.size (fun k_ => some k_ ≠ (.slice Ao23 x356000_1.length co23 : Value).ownBlock ∧ some k_ ≠ (.slice Ao24 x356001_1.length co24 : Value).ownBlock ∧ some k_ ≠ (.slice Ao26 t360.length co26 : Value).ownBlock ∧ some k_ ≠ (.slice Ao28 t363.length co28 : Value).ownBlock ∧ k_ ≠ gb347 ∧ k_ ≠ gb348 ∧ k_ ≠ gb355) (.slice (some ad359) t356.length co21) t356) := ⟨by (with_reducible repeat (first | apply Kd.N_alloc | apply Kd.N_drewN | apply Kd.N_drew)); exact Kd.N_mono (Kd.N_far (p := ⟨gb355, 1, none⟩) (Kd.N_far (p := ⟨gb355, 0, none⟩) (Kd.N_mono HO_7.out (fun k_ hk => (⟨hk, hk.1.1.2.2.2.2⟩ : _ ∧ k_ ≠ gb355))) (fun _ hk => hk.2) _) (fun _ hk => hk.2) _) (fun _ hk => ⟨hk.1.1.1.1, ⟨hk.1.1.1.2.1, ⟨hk.1.1.2, ⟨hk.1.2, ⟨hk.1.1.1.2.2.1, ⟨hk.1.1.1.2.2.2.1, hk.1.1.1.2.2.2.2⟩⟩⟩⟩⟩⟩)⟩
     have n1_ : Aside0 (Kd.R (Kd.int .i64) 3 ((w25.setCell ⟨gb355, 0, none⟩ (.slice Ao26 t360.length co26)).setCell ⟨gb355, 1, none⟩ (.slice Ao28 t363.length co28)) w.heap.size (fun k_ => some k_ ≠ (.slice Ao24 x356001_1.length co24 : Value).ownBlock ∧ some k_ ≠ (.slice Ao26 t360.length co26 : Value).ownBlock ∧ some k_ ≠ (.slice Ao28 t363.length co28 : Value).ownBlock) (.slice Ao23 x356000_1.length co23) x356000_1) := ⟨by (with_reducible repeat (first | apply rA | apply rN | apply rD)); exact Kd.R_mono (Kd.R_far (p := ⟨gb355, 1, none⟩) (Kd.R_far (p := ⟨gb355, 0, none⟩) (Kd.R_types HO_356000.out BK355.out (by decide)) (fun _ hk => hk.2) _) (fun _ hk => hk.2) _) (fun _ hk => ⟨hk.1.1.1, ⟨hk.1.1.2, hk.1.2⟩⟩)⟩
     have n2_ : Aside0 (Kd.R (Kd.int .i64) 3 ((w25.setCell ⟨gb355, 0, none⟩ (.slice Ao26 t360.length co26)).setCell ⟨gb355, 1, none⟩ (.slice Ao28 t363.length co28)) w.heap.size (fun k_ => some k_ ≠ (.slice Ao23 x356000_1.length co23 : Value).ownBlock ∧ some k_ ≠ (.slice Ao26 t360.length co26 : Value).ownBlock ∧ some k_ ≠ (.slice Ao28 t363.length co28 : Value).ownBlock) (.slice Ao24 x356001_1.length co24) x356001_1) := ⟨by (with_reducible repeat (first | apply rA | apply rN | apply rD)); exact Kd.R_mono (Kd.R_far (p := ⟨gb355, 1, none⟩) (Kd.R_far (p := ⟨gb355, 0, none⟩) (Kd.R_types HO_356001.out BK355.out (by decide)) (fun _ hk => hk.2) _) (fun _ hk => hk.2) _) (fun _ hk => ⟨hk.1.1.1, ⟨hk.1.1.2, hk.1.2⟩⟩)⟩
     have n3_ : Aside0 (Kd.V (Kd.int .i64) 3 ((w25.setCell ⟨gb355, 0, none⟩ (.slice Ao26 t360.length co26)).setCell ⟨gb355, 1, none⟩ (.slice Ao28 t363.length co28)) w.heap.size (fun k_ => some k_ ≠ (.slice (some ad359) t356.length co21 : Value).ownBlock ∧ some k_ ≠ (.slice Ao23 x356000_1.length co23 : Value).ownBlock ∧ some k_ ≠ (.slice Ao24 x356001_1.length co24 : Value).ownBlock ∧ some k_ ≠ (.slice Ao26 t360.length co26 : Value).ownBlock ∧ some k_ ≠ (.slice Ao28 t363.length co28 : Value).ownBlock ∧ k_ ≠ gb347 ∧ k_ ≠ gb348 ∧ k_ ≠ gb355) (.slice A359_3 ((rd_T44 t356 x9_1).f1.f2).length c359_3) ((rd_T44 t356 x9_1).f1.f2)) := ⟨by (with_reducible repeat (first | apply vA | apply vN | apply vD)); exact Kd.V_mono (Kd.V_far (p := ⟨gb355, 1, none⟩) (Kd.V_far (p := ⟨gb355, 0, none⟩) (Kd.V_mono HL359_3.out (fun k_ hk => (⟨hk, hk.1.1.1.2.2.2.2⟩ : _ ∧ k_ ≠ gb355))) (fun _ hk => hk.2) _) (fun _ hk => hk.2) _) (fun _ hk => ⟨hk.1.1.1.2, ⟨hk.1.1.1.1.1, ⟨hk.1.1.1.1.2.1, ⟨hk.1.1.2, ⟨hk.1.2, ⟨hk.1.1.1.1.2.2.1, ⟨hk.1.1.1.1.2.2.2.1, hk.1.1.1.1.2.2.2.2⟩⟩⟩⟩⟩⟩⟩)⟩
     have n4_ : Aside0 (Kd.V (Kd.int .i64) 3 ((w25.setCell ⟨gb355, 0, none⟩ (.slice Ao26 t360.length co26)).setCell ⟨gb355, 1, none⟩ (.slice Ao28 t363.length co28)) w.heap.size (fun k_ => some k_ ≠ (.slice (some ad359) t356.length co21 : Value).ownBlock ∧ some k_ ≠ (.slice Ao23 x356000_1.length co23 : Value).ownBlock ∧ some k_ ≠ (.slice Ao24 x356001_1.length co24 : Value).ownBlock ∧ some k_ ≠ (.slice Ao26 t360.length co26 : Value).ownBlock ∧ some k_ ≠ (.slice Ao28 t363.length co28 : Value).ownBlock ∧ k_ ≠ gb347 ∧ k_ ≠ gb348 ∧ k_ ≠ gb355) (.slice A359_4 ((rd_T44 t356 x9_1).f1.f3).length c359_4) ((rd_T44 t356 x9_1).f1.f3)) := ⟨by (with_reducible repeat (first | apply vA | apply vN | apply vD)); exact Kd.V_mono (Kd.V_far (p := ⟨gb355, 1, none⟩) (Kd.V_far (p := ⟨gb355, 0, none⟩) (Kd.V_mono HL359_4.out (fun k_ hk => (⟨hk, hk.1.1.1.2.2.2.2⟩ : _ ∧ k_ ≠ gb355))) (fun _ hk => hk.2) _) (fun _ hk => hk.2) _) (fun _ hk => ⟨hk.1.1.1.2, ⟨hk.1.1.1.1.1, ⟨hk.1.1.1.1.2.1, ⟨hk.1.1.2, ⟨hk.1.2, ⟨hk.1.1.1.1.2.2.1, ⟨hk.1.1.1.1.2.2.2.1, hk.1.1.1.1.2.2.2.2⟩⟩⟩⟩⟩⟩⟩)⟩
     have n5_ : Aside0 (Kd.R (Kd.int .i64) 3 ((w25.setCell ⟨gb355, 0, none⟩ (.slice Ao26 t360.length co26)).setCell ⟨gb355, 1, none⟩ (.slice Ao28 t363.length co28)) w.heap.size (fun k_ => some k_ ≠ (.slice Ao23 x356000_1.length co23 : Value).ownBlock ∧ some k_ ≠ (.slice Ao24 x356001_1.length co24 : Value).ownBlock ∧ some k_ ≠ (.slice Ao28 t363.length co28 : Value).ownBlock) (.slice Ao26 t360.length co26) t360) := ⟨by (with_reducible repeat (first | apply rA | apply rN | apply rD)); exact Kd.R_mono (Kd.R_far (p := ⟨gb355, 1, none⟩) (Kd.R_far (p := ⟨gb355, 0, none⟩) (Kd.R_types HO362.out BK355.out (by decide)) (fun _ hk => hk.2) _) (fun _ hk => hk.2) _) (fun _ hk => ⟨hk.1.1.2, ⟨hk.1.2, hk.1.1.1⟩⟩)⟩
     have n6_ : Aside0 (Kd.R (Kd.int .i64) 3 ((w25.setCell ⟨gb355, 0, none⟩ (.slice Ao26 t360.length co26)).setCell ⟨gb355, 1, none⟩ (.slice Ao28 t363.length co28)) w.heap.size (fun k_ => some k_ ≠ (.slice Ao23 x356000_1.length co23 : Value).ownBlock ∧ some k_ ≠ (.slice Ao24 x356001_1.length co24 : Value).ownBlock ∧ some k_ ≠ (.slice Ao26 t360.length co26 : Value).ownBlock) (.slice Ao28 t363.length co28) t363) := ⟨by (with_reducible repeat (first | apply rA | apply rN | apply rD)); exact Kd.R_mono (Kd.R_far (p := ⟨gb355, 1, none⟩) (Kd.R_far (p := ⟨gb355, 0, none⟩) (Kd.R_types HO365.out BK355.out (by decide)) (fun _ hk => hk.2) _) (fun _ hk => hk.2) _) (fun _ hk => ⟨hk.1.1.2, ⟨hk.1.2, hk.1.1.1⟩⟩)⟩
     have n7_ : Aside0 (((w25.setCell ⟨gb355, 0, none⟩ (.slice Ao26 t360.length co26)).setCell ⟨gb355, 1, none⟩ (.slice Ao28 t363.length co28)).heap[gb347]? = some (.cells #[.slice A0_0 l0_0.length c0_0, .bool a0_1, .bool a0_2, .int .i64 a0_3] 32 (0, 0))) := ⟨by (with_reducible repeat (first | apply bN | apply bD | apply bA)); refine blk_far ?_ NB347_355.out _; (with_reducible repeat (first | apply bN | apply bD | apply bA)); refine blk_far ?_ NB347_355.out _; (with_reducible repeat (first | apply bN | apply bD | apply bA)); exact BK347.out⟩
     have n8_ : Aside0 (((w25.setCell ⟨gb355, 0, none⟩ (.slice Ao26 t360.length co26)).setCell ⟨gb355, 1, none⟩ (.slice Ao28 t363.length co28)).heap[gb348]? = some (.cells #[.slice none 0 0, .slice none 0 0] 24 (0, 0))) := ⟨by (with_reducible repeat (first | apply bN | apply bD | apply bA)); refine blk_far ?_ NB348_355.out _; (with_reducible repeat (first | apply bN | apply bD | apply bA)); refine blk_far ?_ NB348_355.out _; (with_reducible repeat (first | apply bN | apply bD | apply bA)); exact BK348.out⟩
     have n9_ : Aside0 (((w25.setCell ⟨gb355, 0, none⟩ (.slice Ao26 t360.length co26)).setCell ⟨gb355, 1, none⟩ (.slice Ao28 t363.length co28)).heap[gb355]? = some (.cells #[.slice Ao26 t360.length co26, .slice Ao28 t363.length co28] 24 (0, 0))) := ⟨by (with_reducible repeat (first | apply bN | apply bD | apply bA)); refine blk_put (cs := #[.slice Ao26 t360.length co26, .slice Ao24 x356001_1.length co24]) ?_ 1 _ rfl; (with_reducible repeat (first | apply bN | apply bD | apply bA)); refine blk_put (cs := #[.slice Ao23 x356000_1.length co23, .slice Ao24 x356001_1.length co24]) ?_ 0 _ rfl; (with_reducible repeat (first | apply bN | apply bD | apply bA)); exact BK355.out⟩
     have n10_ : Aside0 (Below w.heap.size w ((w25.setCell ⟨gb355, 0, none⟩ (.slice Ao26 t360.length co26)).setCell ⟨gb355, 1, none⟩ (.slice Ao28 t363.length co28))) := ⟨mH⟩
     (try clear HO_7)
     (try clear HO_356000)
     (try clear HO_356001)
     (try clear HL359_3)
     (try clear HL359_4)
     (try clear HO362)
     (try clear HO365)
     (try clear BK347)
     (try clear BK348)
     (try clear BK355)
     (try clear HB)
     generalize ((w25.setCell ⟨gb355, 0, none⟩ (.slice Ao26 t360.length co26)).setCell ⟨gb355, 1, none⟩ (.slice Ao28 t363.length co28)) = w30 at n0_ n1_ n2_ n3_ n4_ n5_ n6_ n7_ n8_ n9_ n10_ ⊢
     have HO_7 := n0_
     have HO_356000 := n1_
     have HO_356001 := n2_
     have HL359_3 := n3_
     have HL359_4 := n4_
     have HO362 := n5_
     have HO365 := n6_
     have BK347 := n7_
     have BK348 := n8_
     have BK355 := n9_
     have HB := n10_
     clear n0_ n1_ n2_ n3_ n4_ n5_ n6_ n7_ n8_ n9_ n10_
     have p366 : 0 ≤ (x9_1 : Int) := of_decide_eq_true (by first | (with_reducible assumption) | assumption)
     have q366 : x9_1 < (t356.length : Int) := of_decide_eq_true (by first | (with_reducible assumption) | assumption)
     obtain ⟨ad366, A366_3, c366_3, A366_4, c366_4, e366, hx366_0, hx366_1, hx366_2, hx366_3, hx366_4, hl366_3, hi366_3, hl366_4, hi366_4⟩ := at_T44 (Kd.N_reads' HO_7.out).2.2 x9_1 p366 q366
     obtain rfl : ad359 = ad366 := (by injection e366)
     obtain ⟨ce366, hce366, hMe366, hcc366⟩ := Kd.N_get HO_7.out z44 x9_1 p366 (by first | exact q366 | exact of_decide_eq_true (by first | (with_reducible assumption) | assumption) | (have e_ := (Kd.N_reads' HO_7.out).1; omega))
     obtain ⟨ua366_3, uc366_3, ua366_4, uc366_4, rfl, ul366_3, ge366_3, ul366_4, ge366_4⟩ := k44_openF hMe366
     have hv366_3 := hcc366 3 _ rfl
     rw [add_field _ _ 3 (by omega)] at hv366_3
     replace hv366_3 := Option.some.inj (hv366_3.symm.trans hx366_3)
     injection hv366_3 with hva_ hvn_ hvc_
     rw [hva_] at ge366_3
     rw [hvc_] at ul366_3
     have HL366_3 := Aside0.mk (show Kd.V (Kd.int .i64) 3 _ w.heap.size _ _ ((rd_T44 t356 x9_1).f1.f2) from Kd.V_mk ul366_3 ge366_3)
     clear hva_ hvn_ hvc_ ge366_3 ul366_3
     have hv366_4 := hcc366 4 _ rfl
     rw [add_field _ _ 4 (by omega)] at hv366_4
     replace hv366_4 := Option.some.inj (hv366_4.symm.trans hx366_4)
     injection hv366_4 with hva_ hvn_ hvc_
     rw [hva_] at ge366_4
     rw [hvc_] at ul366_4
     have HL366_4 := Aside0.mk (show Kd.V (Kd.int .i64) 3 _ w.heap.size _ _ ((rd_T44 t356 x9_1).f1.f3) from Kd.V_mk ul366_4 ge366_4)
     clear hva_ hvn_ hvc_ ge366_4 ul366_4
     clear hcc366 hce366
     have HR366_3 := Aside0.mk hi366_3
     have HC366_3 := Aside0.mk hl366_3
     clear hi366_3 hl366_3
     have HR366_4 := Aside0.mk hi366_4
     have HC366_4 := Aside0.mk hl366_4
     clear hi366_4 hl366_4
     replace p366 := eq_true p366
     replace q366 := eq_true q366
     try go_wp2
     go_roundg k1
     case measure => have := HK1.out; omega
     case rel => exact ⟨(ji20), (wrap64 (x9_1 + 1)), (t360), (t363), (.slice Ao26 t360.length co26), (.slice Ao28 t363.length co28), (by first | rfl | (simp; done) | (simp only [← hji20] <;> (first | rfl | simp)) | (simp [*]; done)), (by first | rfl | (simp; done) | (simp [*]; done)), H', ⟨by have := HK1.out; omega⟩, ⟨by (with_reducible repeat (first | apply Kd.N_alloc | apply Kd.N_drewN | apply Kd.N_drew)); exact Kd.N_mono HO_7.out (fun _ hk => ⟨hk.2.2.1, ⟨hk.2.2.2.1, ⟨hk.2.2.2.2.1, ⟨hk.2.2.2.2.2.1, hk.2.2.2.2.2.2⟩⟩⟩⟩)⟩, ⟨by (with_reducible repeat (first | apply rA | apply rN | apply rD)); exact Kd.R_mono HO362.out (fun _ hk => hk.2.2)⟩, ⟨by (with_reducible repeat (first | apply rA | apply rN | apply rD)); exact Kd.R_mono HO365.out (fun _ hk => hk.2.2)⟩, ⟨mB BK347.out⟩, ⟨mB BK348.out⟩, ⟨mB BK355.out⟩, ⟨mH⟩⟩
    ·
     rw [if_neg c18] at H
     exact absurd H (by simp)
   ·
    rw [if_neg c17] at H
    have c17b0 : decide (x9_1 < (t356.length : Int)) = false := decide_eq_false c17
    clear c17
    simp only [Option.some.injEq, Prod.mk.injEq] at H
    obtain ⟨rfl, rfl, rfl⟩ := H
    obtain ⟨Ao31, co31, eo31⟩ := Kd.N_slice HO_7.out
    subst eo31
    have hnb32 := NB355_347.out
    have hnc32 := NB347_355.out
    have hnb33 := NB355_348.out
    have hnc33 := NB348_355.out
    obtain ⟨hcz34_0, hcz34_1, hfz34_0, hfz34_1⟩ := kc2 BK355.out
    obtain ⟨Ao35, co35, eo35⟩ := Kd.R_slice HO_356000.out
    subst eo35
    have hnb36 := NB348_347.out
    have hnc36 := NB347_348.out
    obtain ⟨hcz37_0, hcz37_1, hfz37_0, hfz37_1⟩ := kc2 BK348.out
    obtain ⟨Ao38, co38, eo38⟩ := Kd.R_slice HO_356001.out
    subst eo38
    go_wp2
    refine bodyPost_ret (results_ct rfl _ _ gb348 24 #[.slice Ao35 x356000_1.length co35, .slice Ao38 x356001_1.length co38] (0, 0) _ rfl (by (with_reducible repeat (first | apply bN | apply bD | apply bA)); refine blk_put (cs := #[.slice Ao35 x356000_1.length co35, .slice none 0 0]) ?_ 1 _ rfl; (with_reducible repeat (first | apply bN | apply bD | apply bA)); refine blk_put (cs := #[.slice none 0 0, .slice none 0 0]) ?_ 0 _ rfl; (with_reducible repeat (first | apply bN | apply bD | apply bA)); exact BK348.out) Try.underlying24 rfl (by kernel_rfl)) rfl ?_
    exact ⟨_, _, by first | rfl | (simp [errW_none, errW_some] <;> rfl) | (simp [*, errW_none, errW_some] <;> rfl), by (with_reducible repeat (first | apply rA | apply rN | apply rD)); exact Kd.R_mono (Kd.R_far (p := ⟨gb348, 1, none⟩) (Kd.R_far (p := ⟨gb348, 0, none⟩) (Kd.R_types HO_356000.out BK348.out (by decide)) (fun _ hk => hk.2) _) (fun _ hk => hk.2) _) (fun _ hk => hk.1), by (with_reducible repeat (first | apply rA | apply rN | apply rD)); exact Kd.R_mono (Kd.R_far (p := ⟨gb348, 1, none⟩) (Kd.R_far (p := ⟨gb348, 0, none⟩) (Kd.R_types HO_356001.out BK348.out (by decide)) (fun _ hk => hk.2) _) (fun _ hk => hk.2) _) (fun _ hk => hk.1), by repeat (first | (with_reducible first | exact HB.out | apply lA | apply lN | apply lD | refine lS ?_ GE347.out | refine lS ?_ GE348.out | refine lS ?_ GE355.out) | exact HB.out)⟩

end Go.Proofs.Ytfolonajajideaa.PAll
