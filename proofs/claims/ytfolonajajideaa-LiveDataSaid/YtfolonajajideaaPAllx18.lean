/- Written by a program of this session (wip/xp) out of the translation: functions in plain Lean, and proofs that the calls come to these. -/
import Derived.Test.YtfolonajajideaaPAllx0
import Derived.Test.YtfolonajajideaaShort
namespace Go.Proofs.Ytfolonajajideaa.PAll
open Go.RowKit Go.Proofs.YtfolonajajideaaW.PrintWords Go.Proofs.YtfolonajajideaaW.PrintLast Go.Proofs.YtfolonajajideaaW.PrintMore
attribute [local go_sem] max2_int min2_int max_two min_two max_three min_three max_four min_four   -- for this text's walks alone
set_option linter.unusedVariables false
set_option linter.unusedSimpArgs false

/-! ### clinkerref07_Apply: function 28 -/
mutual
def clinkerref07_Apply.l0 : Nat → Int → Int → Int → Int → List Int → List Int → List Int → List Int → Option (List Int × List Int)
 | 0, _, _, _, _, _, _, _, _ => none
 | k + 1, x6, x333000, x333001, x333002, x333003, x333004, x341000, x341001 => if x6 < (x333003.length : Int) then (if 0 ≤ x6 then (if (rd x333003 x6) < 0 then (clinkerref07_Apply.j1 k x6 (rd x333003 x6) true x333000 x333001 x333002 x333003 x333004 x341000 x341001) else (if (rd x333003 x6) ≥ (x341000.length : Int) then (clinkerref07_Apply.j1 k x6 (rd x333003 x6) true x333000 x333001 x333002 x333003 x333004 x341000 x341001) else (clinkerref07_Apply.j1 k x6 (rd x333003 x6) (decide ((rd x333003 x6) ≥ (x341001.length : Int))) x333000 x333001 x333002 x333003 x333004 x341000 x341001))) else (none)) else (some (x341000, x341001))
def clinkerref07_Apply.j1 : Nat → Int → Int → Bool → Int → Int → Int → List Int → List Int → List Int → List Int → Option (List Int × List Int)
 | 0, _, _, _, _, _, _, _, _, _, _ => none
 | k + 1, x6, x7, x44, x333000, x333001, x333002, x333003, x333004, x341000, x341001 => if x44 = true then (clinkerref07_Apply.l0 k (wrap64 (x6 + 1)) x333000 x333001 x333002 x333003 x333004 x341000 x341001) else (if x333001 = 1 then (if 0 ≤ x7 then (if x7 < (x341000.length : Int) then (if x7 < (x341001.length : Int) then (clinkerref07_Apply.l0 k (wrap64 (x6 + 1)) x333000 x333001 x333002 x333003 x333004 (x341000.set (x7 : Int).toNat x333000) (x341001.set (x7 : Int).toNat x333000)) else (none)) else (none)) else (none)) else (if x333001 = 2 then (if x6 < (x333004.length : Int) then (if 0 ≤ x6 then (if 0 ≤ x7 then (if x7 < (x341000.length : Int) then (if x7 < (x341001.length : Int) then (clinkerref07_Apply.l0 k (wrap64 (x6 + 1)) x333000 x333001 x333002 x333003 x333004 (x341000.set (x7 : Int).toNat (rd x333004 x6)) (x341001.set (x7 : Int).toNat x333000)) else (none)) else (none)) else (none)) else (none)) else (clinkerref07_Apply.l0 k (wrap64 (x6 + 1)) x333000 x333001 x333002 x333003 x333004 x341000 x341001)) else (clinkerref07_Apply.l0 k (wrap64 (x6 + 1)) x333000 x333001 x333002 x333003 x333004 x341000 x341001)))
end
def clinkerref07_Apply.f (k : Nat) (l0_0 : List Int) (l0_1 : List Int) (a1_0 : Int) (a1_1 : Int) (a1_2 : Int) (l1_3 : List Int) (l1_4 : List Int) : Option (List Int × List Int) := if ([] : List Int).length + l0_0.length < 17592186044416 then (if ([] : List Int).length + l0_1.length < 17592186044416 then (clinkerref07_Apply.l0 k 0 a1_0 a1_1 a1_2 l1_3 l1_4 (([] : List Int) ++ l0_0) (([] : List Int) ++ l0_1)) else (none)) else (none)
theorem clinkerref07_Apply.mono_l : ∀ k, (∀ y0 y1 y2 y3 y4 y5 y6 y7, LeO (clinkerref07_Apply.l0 k y0 y1 y2 y3 y4 y5 y6 y7) (clinkerref07_Apply.l0 (k + 1) y0 y1 y2 y3 y4 y5 y6 y7)) ∧ (∀ y0 y1 y2 y3 y4 y5 y6 y7 y8 y9, LeO (clinkerref07_Apply.j1 k y0 y1 y2 y3 y4 y5 y6 y7 y8 y9) (clinkerref07_Apply.j1 (k + 1) y0 y1 y2 y3 y4 y5 y6 y7 y8 y9))
 | 0 => ⟨fun _ _ _ _ _ _ _ _ r h => by simp [clinkerref07_Apply.l0] at h, fun _ _ _ _ _ _ _ _ _ _ r h => by simp [clinkerref07_Apply.j1] at h⟩
 | k + 1 => by
  obtain ⟨ih0, ih1⟩ := clinkerref07_Apply.mono_l k
  refine ⟨?_, ?_⟩
  ·
   intro y0 y1 y2 y3 y4 y5 y6 y7
   unfold clinkerref07_Apply.l0
   repeat' first
   | (with_reducible exact ih0 _ _ _ _ _ _ _ _)
   | (with_reducible exact ih1 _ _ _ _ _ _ _ _ _ _)
   | (with_reducible exact LeO.refl _)
   | (with_reducible exact LeO.none _)
   | (with_reducible refine LeO.ite ?_ ?_)
   | (with_reducible refine LeO.bind ?_ (fun _ => ?_))
   | exact ih0 _ _ _ _ _ _ _ _
   | exact ih1 _ _ _ _ _ _ _ _ _ _
   | exact LeO.none _
   | refine LeO.ite ?_ ?_
   | refine LeO.bind ?_ (fun _ => ?_)
  ·
   intro y0 y1 y2 y3 y4 y5 y6 y7 y8 y9
   unfold clinkerref07_Apply.j1
   repeat' first
   | (with_reducible exact ih0 _ _ _ _ _ _ _ _)
   | (with_reducible exact ih1 _ _ _ _ _ _ _ _ _ _)
   | (with_reducible exact LeO.refl _)
   | (with_reducible exact LeO.none _)
   | (with_reducible refine LeO.ite ?_ ?_)
   | (with_reducible refine LeO.bind ?_ (fun _ => ?_))
   | exact ih0 _ _ _ _ _ _ _ _
   | exact ih1 _ _ _ _ _ _ _ _ _ _
   | exact LeO.none _
   | refine LeO.ite ?_ ?_
   | refine LeO.bind ?_ (fun _ => ?_)
theorem clinkerref07_Apply.mono : ∀ a0 a1 a2 a3 a4 a5 a6 k, LeO (clinkerref07_Apply.f k a0 a1 a2 a3 a4 a5 a6) (clinkerref07_Apply.f (k + 1) a0 a1 a2 a3 a4 a5 a6) := by
 intro a0 a1 a2 a3 a4 a5 a6 k
 obtain ⟨ih0, ih1⟩ := clinkerref07_Apply.mono_l k
 unfold clinkerref07_Apply.f
 repeat' first
   | (with_reducible exact ih0 _ _ _ _ _ _ _ _)
   | (with_reducible exact ih1 _ _ _ _ _ _ _ _ _ _)
   | (with_reducible exact LeO.refl _)
   | (with_reducible exact LeO.none _)
   | (with_reducible refine LeO.ite ?_ ?_)
   | (with_reducible refine LeO.bind ?_ (fun _ => ?_))
   | exact ih0 _ _ _ _ _ _ _ _
   | exact ih1 _ _ _ _ _ _ _ _ _ _
   | exact LeO.none _
   | refine LeO.ite ?_ ?_
   | refine LeO.bind ?_ (fun _ => ?_)
def clinkerref07_Apply.T1 : Bool × List (List Nat × List Nat) := (true, [([], []), ([0], [0]), ([1], [1]), ([], []), ([3], [3]), ([4, 2], [4]), ([2, 5], [2, 5]), ([], []), ([7, 6, 5, 0, 1, 2, 3, 4, 5, 6, 7], [6, 7])])
def clinkerref07_Apply.B1 : List Nat := [0, 1, 3, 0, 8, 31, 63, 0, 255]
theorem clinkerref07_Apply.tab1 : rtab .any (opsOf Try.f28 1) = clinkerref07_Apply.T1 := by kernel_rfl
theorem clinkerref07_Apply.bits1 : waitsOk clinkerref07_Apply.T1.2 clinkerref07_Apply.B1 = true := by kernel_rfl
def clinkerref07_Apply.T8 : Bool × List (List Nat × List Nat) := (true, [([], []), ([0], [0]), ([], []), ([], []), ([3], [3]), ([], []), ([], []), ([6], [6]), ([], []), ([8], [8]), ([1, 2, 0, 1, 2, 6, 7], [1, 2]), ([10, 7, 0, 1, 2, 6, 7], [7, 10]), ([4, 5, 0, 1, 2, 3, 4, 5, 6, 7, 8, 9, 10, 11], [4, 5]), ([12, 9, 11, 0, 1, 2, 3, 4, 5, 6, 7, 8, 9, 10, 11], [9, 12])])
def clinkerref07_Apply.B8 : List Nat := [0, 1, 0, 0, 8, 0, 0, 64, 0, 256, 199, 1223, 4095, 8191]
theorem clinkerref07_Apply.tab8 : rtab .any (opsOf Try.f28 8) = clinkerref07_Apply.T8 := by kernel_rfl
theorem clinkerref07_Apply.bits8 : waitsOk clinkerref07_Apply.T8.2 clinkerref07_Apply.B8 = true := by kernel_rfl
def clinkerref07_Apply.T10 : Bool × List (List Nat × List Nat) := (true, [([], []), ([0], [0]), ([], []), ([], []), ([3], [3]), ([], []), ([], []), ([6], [6]), ([7], [7]), ([], []), ([8, 9], [8, 9]), ([10], [10]), ([], []), ([12], [12]), ([1, 2, 0, 1, 2, 6, 7, 8, 9, 10, 11], [1, 2]), ([14, 11, 0, 1, 2, 6, 7, 8, 9, 10, 11], [11, 14]), ([4, 5, 0, 1, 2, 3, 4, 5, 6, 7, 8, 9, 10, 11, 12, 13, 14, 15], [4, 5]), ([16, 13, 15, 0, 1, 2, 3, 4, 5, 6, 7, 8, 9, 10, 11, 12, 13, 14, 15], [13, 16])])
def clinkerref07_Apply.B10 : List Nat := [0, 1, 0, 0, 8, 0, 0, 64, 192, 0, 960, 1984, 0, 4096, 4039, 20423, 65535, 131071]
theorem clinkerref07_Apply.tab10 : rtab .any (opsOf Try.f28 10) = clinkerref07_Apply.T10 := by kernel_rfl
theorem clinkerref07_Apply.bits10 : waitsOk clinkerref07_Apply.T10.2 clinkerref07_Apply.B10 = true := by kernel_rfl
abbrev q0k18 : Array Bool := #[false, false, false, false, false, false, false, false, false]
abbrev q1k18 : Array Bool := #[true, true, true, true, true, true, true, true, false]
abbrev q2k18 : Array Bool := #[true, true, true, true, true, false, false, false, false]
abbrev q3k18 : Array Bool := #[true, true, false, true, true, false, false, true, false]
abbrev q4k18 : Array Bool := #[true, true, true, true, true, true, false, false, false]
abbrev q5k18 : Array Bool := #[true, true, true, true, true, false, false, true, false]
abbrev q6k18 : Array Bool := #[true, true, true, true, true, true, false, true, false]
abbrev q7k18 : Array Bool := #[true, true, true, true, true, true, true, true, true]
abbrev q8k18 : Array Bool := #[false, false, false, false, false, false, false, false, false, false, false, false, false, false]
abbrev q9k18 : Array Bool := #[true, true, true, true, true, true, true, true, true, true, true, true, false, false]
abbrev q10k18 : Array Bool := #[true, true, true, true, true, true, true, true, true, true, true, true, true, true]
abbrev q11k18 : Array Bool := #[false, false, false, false, false, false, false, false, false, false, false, false, false, false, false, false, false, false]
abbrev q12k18 : Array Bool := #[true, true, true, true, true, true, true, true, true, true, true, true, true, true, true, true, false, false]
abbrev q13k18 : Array Bool := #[true, true, true, true, true, true, true, true, true, true, true, true, true, true, true, true, true, true]
set_option maxHeartbeats 8000000 in
set_option maxRecDepth 100000 in
theorem clinkerref07_Apply.calls (k : Nat) (A0_0 : Option Addr) (c0_0 : Nat) (l0_0 : List Int) (A0_1 : Option Addr) (c0_1 : Nat) (l0_1 : List Int) (a1_0 : Int) (a1_1 : Int) (a1_2 : Int) (A1_3 : Option Addr) (c1_3 : Nat) (l1_3 : List Int) (A1_4 : Option Addr) (c1_4 : Nat) (l1_4 : List Int) (r1 : List Int) (r2 : List Int) (w : World) (hr0_0 : Kd.C (Kd.int .i64) w A0_0 l0_0.length l0_0) (hc0_0 : l0_0.length ≤ c0_0) (hr0_1 : Kd.C (Kd.int .i64) w A0_1 l0_1.length l0_1) (hc0_1 : l0_1.length ≤ c0_1) (hr1_3 : Kd.C (Kd.int .i64) w A1_3 l1_3.length l1_3) (hc1_3 : l1_3.length ≤ c1_3) (hr1_4 : Kd.C (Kd.int .i64) w A1_4 l1_4.length l1_4) (hc1_4 : l1_4.length ≤ c1_4) (h : clinkerref07_Apply.f k l0_0 l0_1 a1_0 a1_1 a1_2 l1_3 l1_4 = some (r1, r2)) :
  Calls Try.prog 28 #[.agg #[.slice A0_0 l0_0.length c0_0, .slice A0_1 l0_1.length c0_1], .agg #[.int .i64 a1_0, .int .i64 a1_1, .int .i64 a1_2, .slice A1_3 l1_3.length c1_3, .slice A1_4 l1_4.length c1_4]] w fun e w' => ∃ v0_ v1_ : Value, e = .returned (.agg #[v0_, v1_]) ∧ Kd.R (Kd.int .i64) 3 w' w.heap.size (fun k_ => some k_ ≠ (v1_ : Value).ownBlock) v0_ r1 ∧ Kd.R (Kd.int .i64) 3 w' w.heap.size (fun k_ => some k_ ≠ (v0_ : Value).ownBlock) v1_ r2 ∧ Below w.heap.size w w' := by
 have hu24 := Try.underlying24
 have hu44 := Try.underlying44
 have HR0_0 := Aside0.mk hr0_0
 have HC0_0 := Aside0.mk hc0_0
 clear hr0_0 hc0_0
 have HR0_1 := Aside0.mk hr0_1
 have HC0_1 := Aside0.mk hc0_1
 clear hr0_1 hc0_1
 have HR1_3 := Aside0.mk hr1_3
 have HC1_3 := Aside0.mk hc1_3
 clear hr1_3 hc1_3
 have HR1_4 := Aside0.mk hr1_4
 have HC1_4 := Aside0.mk hc1_4
 clear hr1_4 hc1_4
 have HB := Aside0.mk (Below.refl w.heap.size w)
 have H : (if ([] : List Int).length + l0_0.length < 17592186044416 then (if ([] : List Int).length + l0_1.length < 17592186044416 then (clinkerref07_Apply.l0 k 0 a1_0 a1_1 a1_2 l1_3 l1_4 (([] : List Int) ++ l0_0) (([] : List Int) ++ l0_1)) else (none)) else (none)) = some (r1, r2) := h
 clear h
 by_cases c3 : ([] : List Int).length + l0_0.length < 17592186044416
 case neg =>
  rw [if_neg c3] at H
  exact absurd H (by simp)
 rw [if_pos c3] at H
 have LMc3 := Aside0.mk c3
 clear c3
 obtain ⟨y334, hy334⟩ : ∃ y_ : List Int, y_ = (([] : List Int) ++ l0_0) := ⟨_, rfl⟩
 replace H : (if ([] : List Int).length + l0_1.length < 17592186044416 then (clinkerref07_Apply.l0 k 0 a1_0 a1_1 a1_2 l1_3 l1_4 y334 (([] : List Int) ++ l0_1)) else (none)) = some (r1, r2) := by first | (rw [hy334]; with_reducible exact H) | (have H2_ := (Option.bind_some _ _).symm.trans H; rw [hy334]; with_reducible exact H2_) | (have H2_ := (Option.bind_some _ _).symm.trans H; with_reducible exact H2_) | with_reducible exact H | (rw [hy334]; exact H) | exact H
 have Ny334 := Aside0.mk hy334
 clear hy334
 by_cases c4 : ([] : List Int).length + l0_1.length < 17592186044416
 case neg =>
  rw [if_neg c4] at H
  exact absurd H (by simp)
 rw [if_pos c4] at H
 have LMc4 := Aside0.mk c4
 clear c4
 obtain ⟨y337, hy337⟩ : ∃ y_ : List Int, y_ = (([] : List Int) ++ l0_1) := ⟨_, rfl⟩
 replace H : (clinkerref07_Apply.l0 k 0 a1_0 a1_1 a1_2 l1_3 l1_4 y334 y337) = some (r1, r2) := by first | (rw [hy337]; with_reducible exact H) | (have H2_ := (Option.bind_some _ _).symm.trans H; rw [hy337]; with_reducible exact H2_) | (have H2_ := (Option.bind_some _ _).symm.trans H; with_reducible exact H2_) | with_reducible exact H | (rw [hy337]; exact H) | exact H
 have Ny337 := Aside0.mk hy337
 clear hy337
 have H' := Aside0.mk H
 clear H
 go_enter Try.func28, Try.ntmps28
 try go_wp2_with (first | ((with_reducible refine gate_dst (N := 2) rfl ?_); (try (refine gate_guard (by rfl) ?_; dsimp only)); refine box_event ?hg (N := 2) ?hd (cs := #[.slice A0_0 l0_0.length c0_0, .slice A0_1 l0_1.length c0_1]) (t := 24) ?hr ?_; (case hd => rfl); (case hg => rfl); (case hr => first | (go_simp; done) | (go_simp; rfl)); intro gb331 hg w5 hbox hb; have BK331 := Aside0.mk (hbox); have GW331 := Aside0.mk ((bz hg : w.heap.size ≤ gb331)); replace HB := Aside0.mk (bst hb); have GE331 := GW331; clear hb hbox hg) | ((with_reducible refine gate_dst (N := 3) rfl ?_); (try (refine gate_guard (by rfl) ?_; dsimp only)); refine box_event ?hg (N := 3) ?hd (cs := #[.int .i64 a1_0, .int .i64 a1_1, .int .i64 a1_2, .slice A1_3 l1_3.length c1_3, .slice A1_4 l1_4.length c1_4]) (t := 44) ?hr ?_; (case hd => rfl); (case hg => rfl); (case hr => first | (go_simp; done) | (go_simp; rfl)); intro gb332 hg w6 hbox hb; have BK332 := Aside0.mk (hbox); have GW332 := Aside0.mk ((bz hg : w.heap.size ≤ gb332)); replace HB := Aside0.mk (bst hb); have GE332 := GW332; have NB331_332 := Aside0.mk ((bl BK331.out hg : gb331 ≠ gb332)); replace BK331 := Aside0.mk (bb BK331.out hb); have NB332_331 := Aside0.mk NB331_332.out.symm; clear hb hbox hg) | ((with_reducible refine gate_dst (N := 4) rfl ?_); (try (refine gate_guard (by rfl) ?_; dsimp only)); refine box_event ?hg (N := 4) ?hd (cs := #[.slice none 0 0, .slice none 0 0]) (t := 24) ?hr ?_; (case hd => rfl); (case hg => rfl); (case hr => first | (go_simp; done) | (go_simp; rfl)); intro gb333 hg w7 hbox hb; have BK333 := Aside0.mk (hbox); have GW333 := Aside0.mk ((bz hg : w.heap.size ≤ gb333)); replace HB := Aside0.mk (bst hb); have GE333 := GW333; have NB331_333 := Aside0.mk ((bl BK331.out hg : gb331 ≠ gb333)); replace BK331 := Aside0.mk (bb BK331.out hb); have NB333_331 := Aside0.mk NB331_333.out.symm; have NB332_333 := Aside0.mk ((bl BK332.out hg : gb332 ≠ gb333)); replace BK332 := Aside0.mk (bb BK332.out hb); have NB333_332 := Aside0.mk NB332_333.out.symm; clear hb hbox hg))
 replace BK331 := Aside0.mk (bD BK331.out)
 replace BK332 := Aside0.mk (bD BK332.out)
 replace BK333 := Aside0.mk (bD BK333.out)
 replace HB := Aside0.mk (lD HB.out)
 refine start_ (n := 9) (S := fun w' => w'.cell? ⟨gb331, 0, none⟩ = some (.slice A0_0 l0_0.length c0_0) ∧ w'.cell? ⟨gb331, 1, none⟩ = some (.slice A0_1 l0_1.length c0_1)) (ds := []) q0k18 (by kernel_rfl) rfl rfl ⟨(blk_cell BK331.out 0).trans rfl, (blk_cell BK331.out 1).trans rfl⟩ (fun hHeld => ?_); refine with_tabW clinkerref07_Apply.tab1 clinkerref07_Apply.bits1 (fun HT_ HW_ => ?_)
 generalize w7.drew = w8 at BK331 BK332 BK333 HB hHeld ⊢
 refine pa 0 (some 8) ?_
 refine pa 3 (some 11) ?_
 refine ta 1 (some 9) hHeld ?_
 refine ta 4 (some 12) hHeld ?_
 refine join_ (σ := Value × Value × Nat) 1 q1k18 (fun s_ => [(10, s_.1), (13, s_.2.1), (5, .pointer (some ⟨s_.2.2, 0, none⟩)), (14, .agg #[s_.1, s_.2.1])]) (fun s_ w' => (w'.cell? ⟨gb331, 0, none⟩ = some (.slice A0_0 l0_0.length c0_0) ∧ w'.cell? ⟨gb331, 1, none⟩ = some (.slice A0_1 l0_1.length c0_1)) ∧ (Kd.R (Kd.int .i64) 3 w' w.heap.size (fun k_ => some k_ ≠ (s_.2.1 : Value).ownBlock) s_.1 y334) ∧ (Kd.R (Kd.int .i64) 3 w' w.heap.size (fun k_ => some k_ ≠ (s_.1 : Value).ownBlock) s_.2.1 y337) ∧ (w'.heap[gb331]? = some (.cells #[.slice A0_0 l0_0.length c0_0, .slice A0_1 l0_1.length c0_1] 24 (0, 0))) ∧ (w'.heap[gb332]? = some (.cells #[.int .i64 a1_0, .int .i64 a1_1, .int .i64 a1_2, .slice A1_3 l1_3.length c1_3, .slice A1_4 l1_4.length c1_4] 44 (0, 0))) ∧ (w'.heap[gb333]? = some (.cells #[.slice none 0 0, .slice none 0 0] 24 (0, 0))) ∧ (w'.heap[s_.2.2]? = some (.cells #[.slice none 0 0, .slice none 0 0] 24 (0, 0))) ∧ (w.heap.size ≤ s_.2.2) ∧ (w.heap.size ≤ s_.2.2) ∧ (gb331 ≠ s_.2.2) ∧ (s_.2.2 ≠ gb331) ∧ (gb332 ≠ s_.2.2) ∧ (s_.2.2 ≠ gb332) ∧ (gb333 ≠ s_.2.2) ∧ (s_.2.2 ≠ gb333) ∧ (Below w.heap.size w w')) ?_ ?_
 rotate_left
 ·
  intro hCont
  refine two_ (i := 2) (j := 7) (Ni := some 10) (Nj := some 5) q2k18 q3k18 rfl rfl rfl rfl (two_of HT_.out (by kernel_rfl)) (by decide) (by decide) (fun K hK => ?_) (fun K hK => ?_)
  ·
   skip
   refine Kd.R_append_rows_step (Kd.int .i64) (w0 := w) w.heap.size rfl (.const (.slice none 0 0)) (.tmp 9) 22 3 (.int .i64 0) 8 rfl Try.underlying22 info3 rfl (by decide) (by omega) (.slice none 0 0) ([] : List Int) l0_0 _ _ _ (fun _ => True) (fun _ => False) rfl rfl ?aO ?aR (fun _ _ h => h) (fun _ h => h.elim) ?aF ?aB ?aS ?aL ?_
   (case aR => repeat (first | exact (Kd.C_below HR0_0.out HB.out) | (with_reducible refine Kd.C_alloc ?_ _) | (with_reducible refine Kd.C_drewN ?_ _) | (with_reducible refine Kd.C_drew ?_)))
   (case aB => exact (by repeat (first | (with_reducible first | exact HB.out | apply lA | apply lN | apply lD | refine lS ?_ GE331.out | refine lS ?_ GE332.out | refine lS ?_ GE333.out) | exact HB.out)))
   (case aF => exact (fun _ _ => trivial))
   (case aO => exact ((Kd.R_nil _ _ _ _ (fun _ => True))))
   (case aS => exact bsz)
   (case aL => have := LMc3.out; omega)
   intro v335 w9 ho hb hg hat
   rw [← Ny334.out] at ho
   replace BK331 := Aside0.mk (bg BK331.out hg (by simp [Value.ownBlock]))
   replace BK332 := Aside0.mk (bg BK332.out hg (by simp [Value.ownBlock]))
   replace BK333 := Aside0.mk (bg BK333.out hg (by simp [Value.ownBlock]))
   replace HB := Aside0.mk (hb)
   have HO336 := Aside0.mk (ho)
   clear ho hb hg hat
   refine hK.out _ _ ⟨(blk_cell BK331.out 0).trans rfl, (blk_cell BK331.out 1).trans rfl⟩ (fun hHeld => ?_)
   clear hK K
   refine na (some 10) ?_
   refine two_ (i := 5) (j := 7) (Ni := some 13) (Nj := some 5) q4k18 q5k18 rfl rfl rfl rfl (two_of HT_.out (by kernel_rfl)) (by decide) (by decide) (fun K hK => ?_) (fun K hK => ?_)
   ·
    skip
    refine Kd.R_append_rows_step (Kd.int .i64) (w0 := w) w.heap.size rfl (.const (.slice none 0 0)) (.tmp 12) 22 3 (.int .i64 0) 8 rfl Try.underlying22 info3 rfl (by decide) (by omega) (.slice none 0 0) ([] : List Int) l0_1 _ _ _ (fun k_ => some k_ ≠ (v335 : Value).ownBlock) (fun _ => False) rfl rfl ?aO ?aR (fun _ _ h => h) (fun _ h => h.elim) ?aF ?aB ?aS ?aL ?_
    (case aR => repeat (first | exact (Kd.C_below HR0_1.out HB.out) | (with_reducible refine Kd.C_alloc ?_ _) | (with_reducible refine Kd.C_drewN ?_ _) | (with_reducible refine Kd.C_drew ?_)))
    (case aB => exact (by repeat (first | (with_reducible first | exact HB.out | apply lA | apply lN | apply lD | refine lS ?_ GE331.out | refine lS ?_ GE332.out | refine lS ?_ GE333.out) | exact HB.out)))
    (case aF => exact (fun k_ hk => Kd.fresh' (Kd.R_lt (mR HO336.out)) k_ hk))
    (case aO => exact ((Kd.R_nil _ _ _ _ (fun k_ => some k_ ≠ (v335 : Value).ownBlock))))
    (case aS => exact bsz)
    (case aL => have := LMc4.out; omega)
    intro v338 w10 ho hb hg hat
    rw [← Ny337.out] at ho
    replace BK331 := Aside0.mk (bg BK331.out hg (by simp [Value.ownBlock]))
    replace BK332 := Aside0.mk (bg BK332.out hg (by simp [Value.ownBlock]))
    replace BK333 := Aside0.mk (bg BK333.out hg (by simp [Value.ownBlock]))
    replace HO336 := Aside0.mk (Kd.R_after (Kd.R_apart_nil (mR HO336.out)) hg hat)
    replace HB := Aside0.mk (hb)
    have HO339 := Aside0.mk (ho)
    clear ho hb hg hat
    obtain ⟨Ao11, co11, eo11⟩ := Kd.R_slice HO339.out
    (first | subst eo11 | (injection eo11 with f1_ f2_ f3_; have f4_ := f1_.symm; have f5_ := f3_.symm; clear f1_ f2_ f3_; subst f4_; subst f5_))
    obtain ⟨Ao12, co12, eo12⟩ := Kd.R_slice HO336.out
    (first | subst eo12 | (injection eo12 with f1_ f2_ f3_; have f4_ := f1_.symm; have f5_ := f3_.symm; clear f1_ f2_ f3_; subst f4_; subst f5_))
    refine hK.out _ _ ⟨(blk_cell BK331.out 0).trans rfl, (blk_cell BK331.out 1).trans rfl⟩ (fun hHeld => ?_)
    clear hK K
    refine na (some 13) ?_
    refine pa 6 (some 14) ?_
    refine one_ (i := 7) (N := some 5) q1k18 rfl rfl (one_of HT_.out (by kernel_rfl)) (by decide) (fun K hK => ?_)
    refine box_step ?hg (N := 5) ?hd (cs := #[.slice none 0 0, .slice none 0 0]) (t := 24) ?hr ?_; (case hd => rfl); (case hg => rfl); (case hr => first | (go_simp; done) | (go_simp; rfl))
    intro gb340 hg w13 hbox hb
    replace HO336 := Aside0.mk (Kd.R_below (mR HO336.out) hb)
    replace HO339 := Aside0.mk (Kd.R_below (mR HO339.out) hb)
    have BK340 := Aside0.mk (hbox)
    have GW340 := Aside0.mk ((bz hg : w.heap.size ≤ gb340))
    replace HB := Aside0.mk (bst hb)
    have GE340 := GW340
    have NB331_340 := Aside0.mk ((bl BK331.out hg : gb331 ≠ gb340))
    replace BK331 := Aside0.mk (bb BK331.out hb)
    have NB340_331 := Aside0.mk NB331_340.out.symm
    have NB332_340 := Aside0.mk ((bl BK332.out hg : gb332 ≠ gb340))
    replace BK332 := Aside0.mk (bb BK332.out hb)
    have NB340_332 := Aside0.mk NB332_340.out.symm
    have NB333_340 := Aside0.mk ((bl BK333.out hg : gb333 ≠ gb340))
    replace BK333 := Aside0.mk (bb BK333.out hb)
    have NB340_333 := Aside0.mk NB333_340.out.symm
    clear hb hbox hg
    refine hK.out _ _ ⟨(blk_cell BK331.out 0).trans rfl, (blk_cell BK331.out 1).trans rfl⟩ (fun hHeld => ?_)
    clear hK K
    refine na (some 5) ?_
    exact norm_ (by simp only [putAll, Act.put, List.setIfInBounds_toArray, List.set_cons_zero, List.set_cons_succ]) (hCont (.slice Ao12 y334.length co12, .slice Ao11 y337.length co11, gb340) _ ⟨hHeld, (by (with_reducible repeat (first | apply rA | apply rN | apply rD)); exact Kd.R_mono HO336.out (fun _ hk => hk.2)), (mR HO339.out), (mB BK331.out), (mB BK332.out), (mB BK333.out), (mB BK340.out), GW340.out, GE340.out, NB331_340.out, NB340_331.out, NB332_340.out, NB340_332.out, NB333_340.out, NB340_333.out, (by repeat (first | (with_reducible first | exact HB.out | apply lA | apply lN | apply lD | refine lS ?_ GE331.out | refine lS ?_ GE332.out | refine lS ?_ GE333.out | refine lS ?_ GE340.out) | exact HB.out))⟩)
   ·
    skip
    refine box_step ?hg (N := 5) ?hd (cs := #[.slice none 0 0, .slice none 0 0]) (t := 24) ?hr ?_; (case hd => rfl); (case hg => rfl); (case hr => first | (go_simp; done) | (go_simp; rfl))
    intro gb340 hg w10 hbox hb
    replace HO336 := Aside0.mk (Kd.R_below (mR HO336.out) hb)
    have BK340 := Aside0.mk (hbox)
    have GW340 := Aside0.mk ((bz hg : w.heap.size ≤ gb340))
    replace HB := Aside0.mk (bst hb)
    have GE340 := GW340
    have NB331_340 := Aside0.mk ((bl BK331.out hg : gb331 ≠ gb340))
    replace BK331 := Aside0.mk (bb BK331.out hb)
    have NB340_331 := Aside0.mk NB331_340.out.symm
    have NB332_340 := Aside0.mk ((bl BK332.out hg : gb332 ≠ gb340))
    replace BK332 := Aside0.mk (bb BK332.out hb)
    have NB340_332 := Aside0.mk NB332_340.out.symm
    have NB333_340 := Aside0.mk ((bl BK333.out hg : gb333 ≠ gb340))
    replace BK333 := Aside0.mk (bb BK333.out hb)
    have NB340_333 := Aside0.mk NB333_340.out.symm
    clear hb hbox hg
    refine hK.out _ _ ⟨(blk_cell BK331.out 0).trans rfl, (blk_cell BK331.out 1).trans rfl⟩ (fun hHeld => ?_)
    clear hK K
    refine na (some 5) ?_
    refine one_ (i := 5) (N := some 13) q6k18 rfl rfl (one_of HT_.out (by kernel_rfl)) (by decide) (fun K hK => ?_)
    refine Kd.R_append_rows_step (Kd.int .i64) (w0 := w) w.heap.size rfl (.const (.slice none 0 0)) (.tmp 12) 22 3 (.int .i64 0) 8 rfl Try.underlying22 info3 rfl (by decide) (by omega) (.slice none 0 0) ([] : List Int) l0_1 _ _ _ (fun k_ => some k_ ≠ (v335 : Value).ownBlock) (fun _ => False) rfl rfl ?aO ?aR (fun _ _ h => h) (fun _ h => h.elim) ?aF ?aB ?aS ?aL ?_
    (case aR => repeat (first | exact (Kd.C_below HR0_1.out HB.out) | (with_reducible refine Kd.C_alloc ?_ _) | (with_reducible refine Kd.C_drewN ?_ _) | (with_reducible refine Kd.C_drew ?_)))
    (case aB => exact (by repeat (first | (with_reducible first | exact HB.out | apply lA | apply lN | apply lD | refine lS ?_ GE331.out | refine lS ?_ GE332.out | refine lS ?_ GE333.out | refine lS ?_ GE340.out) | exact HB.out)))
    (case aF => exact (fun k_ hk => Kd.fresh' (Kd.R_lt (mR HO336.out)) k_ hk))
    (case aO => exact ((Kd.R_nil _ _ _ _ (fun k_ => some k_ ≠ (v335 : Value).ownBlock))))
    (case aS => exact bsz)
    (case aL => have := LMc4.out; omega)
    intro v338 w11 ho hb hg hat
    rw [← Ny337.out] at ho
    replace BK331 := Aside0.mk (bg BK331.out hg (by simp [Value.ownBlock]))
    replace BK332 := Aside0.mk (bg BK332.out hg (by simp [Value.ownBlock]))
    replace BK333 := Aside0.mk (bg BK333.out hg (by simp [Value.ownBlock]))
    replace HO336 := Aside0.mk (Kd.R_after (Kd.R_apart_nil (mR HO336.out)) hg hat)
    replace BK340 := Aside0.mk (bg BK340.out hg (by simp [Value.ownBlock]))
    replace HB := Aside0.mk (hb)
    have HO339 := Aside0.mk (ho)
    clear ho hb hg hat
    obtain ⟨Ao12, co12, eo12⟩ := Kd.R_slice HO339.out
    (first | subst eo12 | (injection eo12 with f1_ f2_ f3_; have f4_ := f1_.symm; have f5_ := f3_.symm; clear f1_ f2_ f3_; subst f4_; subst f5_))
    obtain ⟨Ao13, co13, eo13⟩ := Kd.R_slice HO336.out
    (first | subst eo13 | (injection eo13 with f1_ f2_ f3_; have f4_ := f1_.symm; have f5_ := f3_.symm; clear f1_ f2_ f3_; subst f4_; subst f5_))
    refine hK.out _ _ ⟨(blk_cell BK331.out 0).trans rfl, (blk_cell BK331.out 1).trans rfl⟩ (fun hHeld => ?_)
    clear hK K
    refine na (some 13) ?_
    refine pa 6 (some 14) ?_
    exact norm_ (by simp only [putAll, Act.put, List.setIfInBounds_toArray, List.set_cons_zero, List.set_cons_succ]) (hCont (.slice Ao13 y334.length co13, .slice Ao12 y337.length co12, gb340) _ ⟨hHeld, (by (with_reducible repeat (first | apply rA | apply rN | apply rD)); exact Kd.R_mono HO336.out (fun _ hk => hk.2)), (mR HO339.out), (mB BK331.out), (mB BK332.out), (mB BK333.out), (mB BK340.out), GW340.out, GE340.out, NB331_340.out, NB340_331.out, NB332_340.out, NB340_332.out, NB333_340.out, NB340_333.out, (by repeat (first | (with_reducible first | exact HB.out | apply lA | apply lN | apply lD | refine lS ?_ GE331.out | refine lS ?_ GE332.out | refine lS ?_ GE333.out | refine lS ?_ GE340.out) | exact HB.out))⟩)
  ·
   skip
   refine box_step ?hg (N := 5) ?hd (cs := #[.slice none 0 0, .slice none 0 0]) (t := 24) ?hr ?_; (case hd => rfl); (case hg => rfl); (case hr => first | (go_simp; done) | (go_simp; rfl))
   intro gb340 hg w9 hbox hb
   have BK340 := Aside0.mk (hbox)
   have GW340 := Aside0.mk ((bz hg : w.heap.size ≤ gb340))
   replace HB := Aside0.mk (bst hb)
   have GE340 := GW340
   have NB331_340 := Aside0.mk ((bl BK331.out hg : gb331 ≠ gb340))
   replace BK331 := Aside0.mk (bb BK331.out hb)
   have NB340_331 := Aside0.mk NB331_340.out.symm
   have NB332_340 := Aside0.mk ((bl BK332.out hg : gb332 ≠ gb340))
   replace BK332 := Aside0.mk (bb BK332.out hb)
   have NB340_332 := Aside0.mk NB332_340.out.symm
   have NB333_340 := Aside0.mk ((bl BK333.out hg : gb333 ≠ gb340))
   replace BK333 := Aside0.mk (bb BK333.out hb)
   have NB340_333 := Aside0.mk NB333_340.out.symm
   clear hb hbox hg
   refine hK.out _ _ ⟨(blk_cell BK331.out 0).trans rfl, (blk_cell BK331.out 1).trans rfl⟩ (fun hHeld => ?_)
   clear hK K
   refine na (some 5) ?_
   refine one_ (i := 2) (N := some 10) q5k18 rfl rfl (one_of HT_.out (by kernel_rfl)) (by decide) (fun K hK => ?_)
   refine Kd.R_append_rows_step (Kd.int .i64) (w0 := w) w.heap.size rfl (.const (.slice none 0 0)) (.tmp 9) 22 3 (.int .i64 0) 8 rfl Try.underlying22 info3 rfl (by decide) (by omega) (.slice none 0 0) ([] : List Int) l0_0 _ _ _ (fun _ => True) (fun _ => False) rfl rfl ?aO ?aR (fun _ _ h => h) (fun _ h => h.elim) ?aF ?aB ?aS ?aL ?_
   (case aR => repeat (first | exact (Kd.C_below HR0_0.out HB.out) | (with_reducible refine Kd.C_alloc ?_ _) | (with_reducible refine Kd.C_drewN ?_ _) | (with_reducible refine Kd.C_drew ?_)))
   (case aB => exact (by repeat (first | (with_reducible first | exact HB.out | apply lA | apply lN | apply lD | refine lS ?_ GE331.out | refine lS ?_ GE332.out | refine lS ?_ GE333.out | refine lS ?_ GE340.out) | exact HB.out)))
   (case aF => exact (fun _ _ => trivial))
   (case aO => exact ((Kd.R_nil _ _ _ _ (fun _ => True))))
   (case aS => exact bsz)
   (case aL => have := LMc3.out; omega)
   intro v335 w10 ho hb hg hat
   rw [← Ny334.out] at ho
   replace BK331 := Aside0.mk (bg BK331.out hg (by simp [Value.ownBlock]))
   replace BK332 := Aside0.mk (bg BK332.out hg (by simp [Value.ownBlock]))
   replace BK333 := Aside0.mk (bg BK333.out hg (by simp [Value.ownBlock]))
   replace BK340 := Aside0.mk (bg BK340.out hg (by simp [Value.ownBlock]))
   replace HB := Aside0.mk (hb)
   have HO336 := Aside0.mk (ho)
   clear ho hb hg hat
   refine hK.out _ _ ⟨(blk_cell BK331.out 0).trans rfl, (blk_cell BK331.out 1).trans rfl⟩ (fun hHeld => ?_)
   clear hK K
   refine na (some 10) ?_
   refine one_ (i := 5) (N := some 13) q6k18 rfl rfl (one_of HT_.out (by kernel_rfl)) (by decide) (fun K hK => ?_)
   refine Kd.R_append_rows_step (Kd.int .i64) (w0 := w) w.heap.size rfl (.const (.slice none 0 0)) (.tmp 12) 22 3 (.int .i64 0) 8 rfl Try.underlying22 info3 rfl (by decide) (by omega) (.slice none 0 0) ([] : List Int) l0_1 _ _ _ (fun k_ => some k_ ≠ (v335 : Value).ownBlock) (fun _ => False) rfl rfl ?aO ?aR (fun _ _ h => h) (fun _ h => h.elim) ?aF ?aB ?aS ?aL ?_
   (case aR => repeat (first | exact (Kd.C_below HR0_1.out HB.out) | (with_reducible refine Kd.C_alloc ?_ _) | (with_reducible refine Kd.C_drewN ?_ _) | (with_reducible refine Kd.C_drew ?_)))
   (case aB => exact (by repeat (first | (with_reducible first | exact HB.out | apply lA | apply lN | apply lD | refine lS ?_ GE331.out | refine lS ?_ GE332.out | refine lS ?_ GE333.out | refine lS ?_ GE340.out) | exact HB.out)))
   (case aF => exact (fun k_ hk => Kd.fresh' (Kd.R_lt (mR HO336.out)) k_ hk))
   (case aO => exact ((Kd.R_nil _ _ _ _ (fun k_ => some k_ ≠ (v335 : Value).ownBlock))))
   (case aS => exact bsz)
   (case aL => have := LMc4.out; omega)
   intro v338 w11 ho hb hg hat
   rw [← Ny337.out] at ho
   replace BK331 := Aside0.mk (bg BK331.out hg (by simp [Value.ownBlock]))
   replace BK332 := Aside0.mk (bg BK332.out hg (by simp [Value.ownBlock]))
   replace BK333 := Aside0.mk (bg BK333.out hg (by simp [Value.ownBlock]))
   replace BK340 := Aside0.mk (bg BK340.out hg (by simp [Value.ownBlock]))
   replace HO336 := Aside0.mk (Kd.R_after (Kd.R_apart_nil (mR HO336.out)) hg hat)
   replace HB := Aside0.mk (hb)
   have HO339 := Aside0.mk (ho)
   clear ho hb hg hat
   obtain ⟨Ao12, co12, eo12⟩ := Kd.R_slice HO339.out
   (first | subst eo12 | (injection eo12 with f1_ f2_ f3_; have f4_ := f1_.symm; have f5_ := f3_.symm; clear f1_ f2_ f3_; subst f4_; subst f5_))
   obtain ⟨Ao13, co13, eo13⟩ := Kd.R_slice HO336.out
   (first | subst eo13 | (injection eo13 with f1_ f2_ f3_; have f4_ := f1_.symm; have f5_ := f3_.symm; clear f1_ f2_ f3_; subst f4_; subst f5_))
   refine hK.out _ _ ⟨(blk_cell BK331.out 0).trans rfl, (blk_cell BK331.out 1).trans rfl⟩ (fun hHeld => ?_)
   clear hK K
   refine na (some 13) ?_
   refine pa 6 (some 14) ?_
   exact norm_ (by simp only [putAll, Act.put, List.setIfInBounds_toArray, List.set_cons_zero, List.set_cons_succ]) (hCont (.slice Ao13 y334.length co13, .slice Ao12 y337.length co12, gb340) _ ⟨hHeld, (by (with_reducible repeat (first | apply rA | apply rN | apply rD)); exact Kd.R_mono HO336.out (fun _ hk => hk.2)), (mR HO339.out), (mB BK331.out), (mB BK332.out), (mB BK333.out), (mB BK340.out), GW340.out, GE340.out, NB331_340.out, NB340_331.out, NB332_340.out, NB340_332.out, NB333_340.out, NB340_333.out, (by repeat (first | (with_reducible first | exact HB.out | apply lA | apply lN | apply lD | refine lS ?_ GE331.out | refine lS ?_ GE332.out | refine lS ?_ GE333.out | refine lS ?_ GE340.out) | exact HB.out))⟩)
 rintro ⟨v335, v338, gb340⟩ w14 ⟨hS_, h0_, h1_, h2_, h3_, h4_, h5_, h6_, h7_, h8_, h9_, h10_, h11_, h12_, h13_, h14_⟩
 have n0_ : Aside0 (Kd.R (Kd.int .i64) 3 w14 w.heap.size (fun k_ => some k_ ≠ (v338 : Value).ownBlock) v335 y334) := ⟨h0_⟩
 have n1_ : Aside0 (Kd.R (Kd.int .i64) 3 w14 w.heap.size (fun k_ => some k_ ≠ (v335 : Value).ownBlock) v338 y337) := ⟨h1_⟩
 have n2_ : Aside0 (w14.heap[gb331]? = some (.cells #[.slice A0_0 l0_0.length c0_0, .slice A0_1 l0_1.length c0_1] 24 (0, 0))) := ⟨h2_⟩
 have n3_ : Aside0 (w14.heap[gb332]? = some (.cells #[.int .i64 a1_0, .int .i64 a1_1, .int .i64 a1_2, .slice A1_3 l1_3.length c1_3, .slice A1_4 l1_4.length c1_4] 44 (0, 0))) := ⟨h3_⟩
 have n4_ : Aside0 (w14.heap[gb333]? = some (.cells #[.slice none 0 0, .slice none 0 0] 24 (0, 0))) := ⟨h4_⟩
 have n5_ : Aside0 (w14.heap[gb340]? = some (.cells #[.slice none 0 0, .slice none 0 0] 24 (0, 0))) := ⟨h5_⟩
 have n6_ : Aside0 (w.heap.size ≤ gb340) := ⟨h6_⟩
 have n7_ : Aside0 (w.heap.size ≤ gb340) := ⟨h7_⟩
 have n8_ : Aside0 (gb331 ≠ gb340) := ⟨h8_⟩
 have n9_ : Aside0 (gb340 ≠ gb331) := ⟨h9_⟩
 have n10_ : Aside0 (gb332 ≠ gb340) := ⟨h10_⟩
 have n11_ : Aside0 (gb340 ≠ gb332) := ⟨h11_⟩
 have n12_ : Aside0 (gb333 ≠ gb340) := ⟨h12_⟩
 have n13_ : Aside0 (gb340 ≠ gb333) := ⟨h13_⟩
 have n14_ : Aside0 (Below w.heap.size w w14) := ⟨h14_⟩
 clear BK331
 clear BK332
 clear BK333
 clear HB
 clear h0_ h1_ h2_ h3_ h4_ h5_ h6_ h7_ h8_ h9_ h10_ h11_ h12_ h13_ h14_
 have HO336 := n0_
 have HO339 := n1_
 have BK331 := n2_
 have BK332 := n3_
 have BK333 := n4_
 have BK340 := n5_
 have GW340 := n6_
 have GE340 := n7_
 have NB331_340 := n8_
 have NB340_331 := n9_
 have NB332_340 := n10_
 have NB340_332 := n11_
 have NB333_340 := n12_
 have NB340_333 := n13_
 have HB := n14_
 clear n0_ n1_ n2_ n3_ n4_ n5_ n6_ n7_ n8_ n9_ n10_ n11_ n12_ n13_ n14_
 have hHeld : w14.cell? ⟨gb331, 0, none⟩ = some (.slice A0_0 l0_0.length c0_0) ∧ w14.cell? ⟨gb331, 1, none⟩ = some (.slice A0_1 l0_1.length c0_1) := hS_
 obtain ⟨Ao15, co15, eo15⟩ := Kd.R_slice HO339.out
 (first | subst eo15 | (injection eo15 with f1_ f2_ f3_; have f4_ := f1_.symm; have f5_ := f3_.symm; clear f1_ f2_ f3_; subst f4_; subst f5_))
 obtain ⟨Ao16, co16, eo16⟩ := Kd.R_slice HO336.out
 (first | subst eo16 | (injection eo16 with f1_ f2_ f3_; have f4_ := f1_.symm; have f5_ := f3_.symm; clear f1_ f2_ f3_; subst f4_; subst f5_))
 refine norm_ (a' := ?_) ?_ ?_; rotate_left; (focus simp only [putAll, Act.put, List.setIfInBounds_toArray, List.set_cons_zero, List.set_cons_succ]; rfl)
 refine one_ (i := 8) (N := none) q7k18 rfl rfl (one_of HT_.out (by kernel_rfl)) (by decide) (fun K hK => ?_)
 have hs17 : w14.cell? ⟨gb340, 0, none⟩ = some (.slice none 0 0) := (blk_cell BK340.out 0).trans rfl
 have hfs17 := blk_frozen BK340.out 0
 have hns17_0 := NB331_340.out
 have hns17_1 := NB332_340.out
 have hns17_2 := NB333_340.out
 have hms17_0 := NB340_331.out
 have hms17_1 := NB340_332.out
 have hms17_2 := NB340_333.out
 have hs18 : w14.cell? ⟨gb340, 1, none⟩ = some (.slice none 0 0) := (blk_cell BK340.out 1).trans rfl
 have hfs18 := blk_frozen BK340.out 1
 have hns18_0 := NB331_340.out
 have hns18_1 := NB332_340.out
 have hns18_2 := NB333_340.out
 have hms18_0 := NB340_331.out
 have hms18_1 := NB340_332.out
 have hms18_2 := NB340_333.out
 refine skip_ (w1 := ?_) (by rfl) rfl ?_ ?_; rotate_left; (focus go_simp; rfl)
 refine hK.out _ _ ⟨((cell_far (p := ⟨gb340, _, none⟩) NB331_340.out _).trans (((cell_far (p := ⟨gb340, _, none⟩) NB331_340.out _).trans (hHeld.1)))), ((cell_far (p := ⟨gb340, _, none⟩) NB331_340.out _).trans (((cell_far (p := ⟨gb340, _, none⟩) NB331_340.out _).trans (hHeld.2))))⟩ (fun hHeld => ?_)
 clear hK K
 refine done_ (done_of HT_.out (by kernel_rfl)) ?_
 try go_wp2
 go_loopg [6] k (fun kq v6 w' => ∃ (x6_1 : Int) (x341000_1 : List Int) (x341001_1 : List Int) (u341000 : Value) (u341001 : Value), v6 = .int .i64 x6_1 ∧ Aside0 (clinkerref07_Apply.l0 kq x6_1 a1_0 a1_1 a1_2 l1_3 l1_4 x341000_1 x341001_1 = some (r1, r2)) ∧ Aside0 (kq ≤ k) ∧ Aside0 (Kd.R (Kd.int .i64) 3 w' w.heap.size (fun k_ => some k_ ≠ (u341001 : Value).ownBlock) u341000 x341000_1) ∧ Aside0 (Kd.R (Kd.int .i64) 3 w' w.heap.size (fun k_ => some k_ ≠ (u341000 : Value).ownBlock) u341001 x341001_1) ∧ Aside0 (w'.heap[gb331]? = some (.cells #[(.slice A0_0 l0_0.length c0_0), (.slice A0_1 l0_1.length c0_1)] 24 (0, 0))) ∧ Aside0 (w'.heap[gb332]? = some (.cells #[.int .i64 a1_0, .int .i64 a1_1, .int .i64 a1_2, (.slice A1_3 l1_3.length c1_3), (.slice A1_4 l1_4.length c1_4)] 44 (0, 0))) ∧ Aside0 (w'.heap[gb333]? = some (.cells #[(.slice none 0 0), (.slice none 0 0)] 24 (0, 0))) ∧ Aside0 (w'.heap[gb340]? = some (.cells #[u341000, u341001] 24 (0, 0))) ∧ Aside0 (Below w.heap.size w w'))
 case atStart => exact ⟨(0), (y334), (y337), (.slice Ao16 y334.length co16), (.slice Ao15 y337.length co15), (by first | rfl | (simp; done) | (simp [*]; done)), H', ⟨Nat.le_refl _⟩, ⟨by (with_reducible repeat (first | apply rA | apply rN | apply rD)); exact Kd.R_mono (Kd.R_far (p := ⟨gb340, 1, none⟩) (Kd.R_far (p := ⟨gb340, 0, none⟩) (Kd.R_types HO336.out BK340.out (by decide)) (fun _ hk => hk.2) _) (fun _ hk => hk.2) _) (fun _ hk => hk.1)⟩, ⟨by (with_reducible repeat (first | apply rA | apply rN | apply rD)); exact Kd.R_mono (Kd.R_far (p := ⟨gb340, 1, none⟩) (Kd.R_far (p := ⟨gb340, 0, none⟩) (Kd.R_types HO339.out BK340.out (by decide)) (fun _ hk => hk.2) _) (fun _ hk => hk.2) _) (fun _ hk => hk.1)⟩, ⟨by (with_reducible repeat (first | apply bN | apply bD | apply bA)); refine blk_far ?_ NB331_340.out _; (with_reducible repeat (first | apply bN | apply bD | apply bA)); refine blk_far ?_ NB331_340.out _; (with_reducible repeat (first | apply bN | apply bD | apply bA)); exact BK331.out⟩, ⟨by (with_reducible repeat (first | apply bN | apply bD | apply bA)); refine blk_far ?_ NB332_340.out _; (with_reducible repeat (first | apply bN | apply bD | apply bA)); refine blk_far ?_ NB332_340.out _; (with_reducible repeat (first | apply bN | apply bD | apply bA)); exact BK332.out⟩, ⟨by (with_reducible repeat (first | apply bN | apply bD | apply bA)); refine blk_far ?_ NB333_340.out _; (with_reducible repeat (first | apply bN | apply bD | apply bA)); refine blk_far ?_ NB333_340.out _; (with_reducible repeat (first | apply bN | apply bD | apply bA)); exact BK333.out⟩, ⟨by (with_reducible repeat (first | apply bN | apply bD | apply bA)); refine blk_put (cs := #[.slice Ao16 y334.length co16, .slice none 0 0]) ?_ 1 _ rfl; (with_reducible repeat (first | apply bN | apply bD | apply bA)); refine blk_put (cs := #[.slice none 0 0, .slice none 0 0]) ?_ 0 _ rfl; (with_reducible repeat (first | apply bN | apply bD | apply bA)); exact BK340.out⟩, ⟨mH⟩⟩
 case round =>
  clear H'
  try clear c1
  try clear c2
  try clear p2
  try clear c3
  try clear c4
  obtain ⟨x6_1, x341000_1, x341001_1, u341000, u341001, rfl, HA, HK1, HO_341000, HO_341001, BK331, BK332, BK333, BK340, HB⟩ := hrel
  cases gk with
  | zero => exact absurd HA.out (by simp [clinkerref07_Apply.l0])
  | succ k1 =>
   have H := HA.out
   clear HA
   simp only [clinkerref07_Apply.l0] at H
   by_cases c19 : x6_1 < (l1_3.length : Int)
   case neg =>
    rw [if_neg c19] at H
    have c19b0 : decide (x6_1 < (l1_3.length : Int)) = false := decide_eq_false c19
    clear c19
    simp only [Option.some.injEq, Prod.mk.injEq] at H
    obtain ⟨rfl, rfl⟩ := H
    have hnb76 := NB332_331.out
    have hnc76 := NB331_332.out
    have hnb77 := NB332_333.out
    have hnc77 := NB333_332.out
    have hnb78 := NB332_340.out
    have hnc78 := NB340_332.out
    obtain ⟨hcz79_0, hcz79_1, hcz79_2, hcz79_3, hcz79_4, hfz79_0, hfz79_1, hfz79_2, hfz79_3, hfz79_4⟩ := kc5 BK332.out
    have hnb80 := NB340_331.out
    have hnc80 := NB331_340.out
    have hnb81 := NB340_333.out
    have hnc81 := NB333_340.out
    obtain ⟨hcz82_0, hcz82_1, hfz82_0, hfz82_1⟩ := kc2 BK340.out
    obtain ⟨Ao83, co83, eo83⟩ := Kd.R_slice HO_341000.out
    subst eo83
    have hnb84 := NB333_331.out
    have hnc84 := NB331_333.out
    obtain ⟨hcz85_0, hcz85_1, hfz85_0, hfz85_1⟩ := kc2 BK333.out
    obtain ⟨Ao86, co86, eo86⟩ := Kd.R_slice HO_341001.out
    subst eo86
    go_wp2
    refine bodyPost_ret (results_cell_row rfl _ _ gb333 24 #[.slice Ao83 x341000_1.length co83, .slice Ao86 x341001_1.length co86] (0, 0) _ rfl (by (with_reducible repeat (first | apply bN | apply bD | apply bA)); refine blk_put (cs := #[.slice Ao83 x341000_1.length co83, .slice none 0 0]) ?_ 1 _ rfl; (with_reducible repeat (first | apply bN | apply bD | apply bA)); refine blk_put (cs := #[.slice none 0 0, .slice none 0 0]) ?_ 0 _ rfl; (with_reducible repeat (first | apply bN | apply bD | apply bA)); exact BK333.out) Try.underlying24 rfl (by kernel_rfl)) rfl ?_
    exact ⟨_, _, by first | rfl | (simp [errW_none, errW_some] <;> rfl) | (simp [*, errW_none, errW_some] <;> rfl), by (with_reducible repeat (first | apply rA | apply rN | apply rD)); exact Kd.R_mono (Kd.R_far (p := ⟨gb333, 1, none⟩) (Kd.R_far (p := ⟨gb333, 0, none⟩) (Kd.R_types HO_341000.out BK333.out (by decide)) (fun _ hk => hk.2) _) (fun _ hk => hk.2) _) (fun _ hk => hk.1), by (with_reducible repeat (first | apply rA | apply rN | apply rD)); exact Kd.R_mono (Kd.R_far (p := ⟨gb333, 1, none⟩) (Kd.R_far (p := ⟨gb333, 0, none⟩) (Kd.R_types HO_341001.out BK333.out (by decide)) (fun _ hk => hk.2) _) (fun _ hk => hk.2) _) (fun _ hk => hk.1), by repeat (first | (with_reducible first | exact HB.out | apply lA | apply lN | apply lD | refine lS ?_ GE331.out | refine lS ?_ GE332.out | refine lS ?_ GE333.out | refine lS ?_ GE340.out) | exact HB.out)⟩
   rw [if_pos c19] at H
   have c19b0 : decide (x6_1 < (l1_3.length : Int)) = true := decide_eq_true c19
   clear c19
   by_cases c20 : 0 ≤ x6_1
   case neg =>
    rw [if_neg c20] at H
    exact absurd H (by simp)
   rw [if_pos c20] at H
   have c20b0 : decide (0 ≤ x6_1) = true := decide_eq_true c20
   clear c20
   have HC21 := Aside0.mk H
   clear H
   have hnb22 := NB332_331.out
   have hnc22 := NB331_332.out
   have hnb23 := NB332_333.out
   have hnc23 := NB333_332.out
   have hnb24 := NB332_340.out
   have hnc24 := NB340_332.out
   obtain ⟨hcz25_0, hcz25_1, hcz25_2, hcz25_3, hcz25_4, hfz25_0, hfz25_1, hfz25_2, hfz25_3, hfz25_4⟩ := kc5 BK332.out
   have p341 : 0 ≤ (x6_1 : Int) := of_decide_eq_true (by first | (with_reducible assumption) | assumption)
   have q341 : x6_1 < (l1_3.length : Int) := of_decide_eq_true (by first | (with_reducible assumption) | assumption)
   obtain ⟨ad341, e341, hx341_0⟩ := Kd.at_int HR1_3.out x6_1 p341 q341
   cases e341
   replace hx341_0 := (HB.out.cell (World.block_lt_of_cell? w _ hx341_0)).trans hx341_0
   replace p341 := eq_true p341
   replace q341 := eq_true q341
   go_upto_region 6 with (fail)
   go_cut [44] (fun v44 wc => ∃ (kq : Nat) (x44_20 : Bool), v44 = .bool x44_20 ∧ Aside0 (clinkerref07_Apply.j1 kq x6_1 (rd l1_3 x6_1) x44_20 a1_0 a1_1 a1_2 l1_3 l1_4 x341000_1 x341001_1 = some (r1, r2)) ∧ Aside0 (kq ≤ k1) ∧ Aside0 (Kd.R (Kd.int .i64) 3 wc w.heap.size (fun k_ => some k_ ≠ (u341001 : Value).ownBlock) u341000 x341000_1) ∧ Aside0 (Kd.R (Kd.int .i64) 3 wc w.heap.size (fun k_ => some k_ ≠ (u341000 : Value).ownBlock) u341001 x341001_1) ∧ Aside0 (wc.heap[gb331]? = some (.cells #[(.slice A0_0 l0_0.length c0_0), (.slice A0_1 l0_1.length c0_1)] 24 (0, 0))) ∧ Aside0 (wc.heap[gb332]? = some (.cells #[.int .i64 a1_0, .int .i64 a1_1, .int .i64 a1_2, (.slice (some ad341) l1_3.length c1_3), (.slice A1_4 l1_4.length c1_4)] 44 (0, 0))) ∧ Aside0 (wc.heap[gb333]? = some (.cells #[(.slice none 0 0), (.slice none 0 0)] 24 (0, 0))) ∧ Aside0 (wc.heap[gb340]? = some (.cells #[u341000, u341001] 24 (0, 0))) ∧ Aside0 (Below w.heap.size w wc))
   case first =>
    have H := HC21.out
    clear HC21
    by_cases c26 : (rd l1_3 x6_1) < 0
    case pos =>
     rw [if_pos c26] at H
     have c26b0 : decide ((rd l1_3 x6_1) < 0) = true := decide_eq_true c26
     clear c26
     (first | rw [c26b0] | (simp only [i64_w, i32_w]; rw [c26b0]) | skip)
     have H' := Aside0.mk H
     clear H
     go_wp2
     go_meet
     case rel => exact ⟨_, (true), (by first | rfl | (simp; done) | (simp [*]; done)), H', ⟨by have := HK1.out; first | omega | exact Nat.le_refl _⟩, ⟨mR HO_341000.out⟩, ⟨mR HO_341001.out⟩, ⟨mB BK331.out⟩, ⟨mB BK332.out⟩, ⟨mB BK333.out⟩, ⟨mB BK340.out⟩, ⟨mH⟩⟩
    rw [if_neg c26] at H
    have c26b0 : decide ((rd l1_3 x6_1) < 0) = false := decide_eq_false c26
    clear c26
    (first | rw [c26b0] | (simp only [i64_w, i32_w]; rw [c26b0]) | skip)
    by_cases c27 : (rd l1_3 x6_1) ≥ (x341000_1.length : Int)
    case pos =>
     rw [if_pos c27] at H
     have c27b0 : decide ((x341000_1.length : Int) ≤ (rd l1_3 x6_1)) = true := decide_eq_true c27
     clear c27
     have H' := Aside0.mk H
     clear H
     have hnb28 := NB340_331.out
     have hnc28 := NB331_340.out
     have hnb29 := NB340_332.out
     have hnc29 := NB332_340.out
     have hnb30 := NB340_333.out
     have hnc30 := NB333_340.out
     obtain ⟨hcz31_0, hcz31_1, hfz31_0, hfz31_1⟩ := kc2 BK340.out
     obtain ⟨Ao32, co32, eo32⟩ := Kd.R_slice HO_341000.out
     subst eo32
     go_wp2
     go_meet
     case rel => exact ⟨_, (true), (by first | rfl | (simp; done) | (simp [*]; done)), H', ⟨by have := HK1.out; first | omega | exact Nat.le_refl _⟩, ⟨mR HO_341000.out⟩, ⟨mR HO_341001.out⟩, ⟨mB BK331.out⟩, ⟨mB BK332.out⟩, ⟨mB BK333.out⟩, ⟨mB BK340.out⟩, ⟨mH⟩⟩
    rw [if_neg c27] at H
    have c27b0 : decide ((x341000_1.length : Int) ≤ (rd l1_3 x6_1)) = false := decide_eq_false c27
    clear c27
    have H' := Aside0.mk H
    clear H
    have hnb33 := NB340_331.out
    have hnc33 := NB331_340.out
    have hnb34 := NB340_332.out
    have hnc34 := NB332_340.out
    have hnb35 := NB340_333.out
    have hnc35 := NB333_340.out
    obtain ⟨hcz36_0, hcz36_1, hfz36_0, hfz36_1⟩ := kc2 BK340.out
    obtain ⟨Ao37, co37, eo37⟩ := Kd.R_slice HO_341000.out
    subst eo37
    obtain ⟨Ao38, co38, eo38⟩ := Kd.R_slice HO_341001.out
    subst eo38
    go_wp2
    go_meet
    case rel => exact ⟨_, (decide ((rd l1_3 x6_1) ≥ (x341001_1.length : Int))), (by first | rfl | (simp; done) | (simp [*]; done)), H', ⟨by have := HK1.out; first | omega | exact Nat.le_refl _⟩, ⟨mR HO_341000.out⟩, ⟨mR HO_341001.out⟩, ⟨mB BK331.out⟩, ⟨mB BK332.out⟩, ⟨mB BK333.out⟩, ⟨mB BK340.out⟩, ⟨mH⟩⟩
   case rest =>
    clear HC21
    try clear c1
    try clear c2
    try clear p2
    try clear c3
    try clear p3
    try clear q3k18
    try clear hx3
    try clear c4
    try clear c19
    try clear c19b0
    try clear c20
    try clear c20b0
    try clear c22
    try clear c23
    try clear c24
    try clear c26
    try clear c26b0
    try clear c27
    try clear c27b0
    try clear c28
    try clear c29
    try clear c30
    try clear c33
    try clear c34
    try clear p34
    try clear q34
    try clear hx34
    try clear c35
    try clear hcz25_0
    try clear hcz25_1
    try clear hcz25_2
    try clear hcz25_3
    try clear hcz25_4
    try clear hcz31_0
    try clear hcz31_1
    try clear hcz36_0
    try clear hcz36_1
    try clear hfz25_0
    try clear hfz25_1
    try clear hfz25_2
    try clear hfz25_3
    try clear hfz25_4
    try clear hfz31_0
    try clear hfz31_1
    try clear hfz36_0
    try clear hfz36_1
    try clear hx341_0
    try clear p2
    try clear p341
    try clear q341
    obtain ⟨kq, x44_20, rfl, HA, HJ20, HO_341000, HO_341001, BK331, BK332, BK333, BK340, HB⟩ := hcut
    cases kq with
    | zero => exact absurd HA.out (by simp [clinkerref07_Apply.j1])
    | succ kj20 =>
     have H := HA.out
     clear HA
     simp only [clinkerref07_Apply.j1] at H
     by_cases c39 : x44_20 = true
     case pos =>
      subst c39
      have H1 : (clinkerref07_Apply.l0 kj20 (wrap64 (x6_1 + 1)) a1_0 a1_1 a1_2 l1_3 l1_4 x341000_1 x341001_1) = some (r1, r2) := by rw [if_pos rfl] at H; exact H
      clear H
      have H := H1
      clear H1
      have H' := Aside0.mk H
      clear H
      go_wp2
      go_roundg kj20
      case measure => have := HK1.out; have := HJ20.out; omega
      case rel => exact ⟨(wrap64 (x6_1 + 1)), (x341000_1), (x341001_1), (u341000), (u341001), (by first | rfl | (simp; done) | (simp [*]; done)), H', ⟨by have := HK1.out; have := HJ20.out; omega⟩, ⟨mR HO_341000.out⟩, ⟨mR HO_341001.out⟩, ⟨mB BK331.out⟩, ⟨mB BK332.out⟩, ⟨mB BK333.out⟩, ⟨mB BK340.out⟩, ⟨mH⟩⟩
     replace c39 := Bool.eq_false_iff.mpr c39
     subst c39
     have H1 : (if a1_1 = 1 then (if 0 ≤ (rd l1_3 x6_1) then (if (rd l1_3 x6_1) < (x341000_1.length : Int) then (if (rd l1_3 x6_1) < (x341001_1.length : Int) then (clinkerref07_Apply.l0 kj20 (wrap64 (x6_1 + 1)) a1_0 a1_1 a1_2 l1_3 l1_4 (x341000_1.set ((rd l1_3 x6_1) : Int).toNat a1_0) (x341001_1.set ((rd l1_3 x6_1) : Int).toNat a1_0)) else (none)) else (none)) else (none)) else (if a1_1 = 2 then (if x6_1 < (l1_4.length : Int) then (if 0 ≤ x6_1 then (if 0 ≤ (rd l1_3 x6_1) then (if (rd l1_3 x6_1) < (x341000_1.length : Int) then (if (rd l1_3 x6_1) < (x341001_1.length : Int) then (clinkerref07_Apply.l0 kj20 (wrap64 (x6_1 + 1)) a1_0 a1_1 a1_2 l1_3 l1_4 (x341000_1.set ((rd l1_3 x6_1) : Int).toNat (rd l1_4 x6_1)) (x341001_1.set ((rd l1_3 x6_1) : Int).toNat a1_0)) else (none)) else (none)) else (none)) else (none)) else (clinkerref07_Apply.l0 kj20 (wrap64 (x6_1 + 1)) a1_0 a1_1 a1_2 l1_3 l1_4 x341000_1 x341001_1)) else (clinkerref07_Apply.l0 kj20 (wrap64 (x6_1 + 1)) a1_0 a1_1 a1_2 l1_3 l1_4 x341000_1 x341001_1))) = some (r1, r2) := by rw [if_neg (show ¬ (false = true) by decide)] at H; exact H
     clear H
     have H := H1
     clear H1
     by_cases c40 : a1_1 = 1
     case pos =>
      rw [if_pos c40] at H
      have c40b0 : (a1_1 == 1) = true := beq_iff_eq.mpr c40
      have c40b1 : (a1_1 != 1) = false := bne_eq_false_iff_eq.mpr c40
      clear c40
      by_cases c41 : 0 ≤ (rd l1_3 x6_1)
      case neg =>
       rw [if_neg c41] at H
       exact absurd H (by simp)
      rw [if_pos c41] at H
      have c41b0 : decide (0 ≤ (rd l1_3 x6_1)) = true := decide_eq_true c41
      clear c41
      by_cases c42 : (rd l1_3 x6_1) < (x341000_1.length : Int)
      case neg =>
       rw [if_neg c42] at H
       exact absurd H (by simp)
      rw [if_pos c42] at H
      have c42b0 : decide ((rd l1_3 x6_1) < (x341000_1.length : Int)) = true := decide_eq_true c42
      clear c42
      obtain ⟨y342, hy342⟩ : ∃ y_ : List Int, y_ = (x341000_1.set ((rd l1_3 x6_1) : Int).toNat a1_0) := ⟨_, rfl⟩
      replace H : (if (rd l1_3 x6_1) < (x341001_1.length : Int) then (clinkerref07_Apply.l0 kj20 (wrap64 (x6_1 + 1)) a1_0 a1_1 a1_2 l1_3 l1_4 y342 (x341001_1.set ((rd l1_3 x6_1) : Int).toNat a1_0)) else (none)) = some (r1, r2) := by first | (rw [hy342]; with_reducible exact H) | (have H2_ := (Option.bind_some _ _).symm.trans H; rw [hy342]; with_reducible exact H2_) | (have H2_ := (Option.bind_some _ _).symm.trans H; with_reducible exact H2_) | with_reducible exact H | (rw [hy342]; exact H) | exact H
      have Ny342 := Aside0.mk hy342
      clear hy342
      by_cases c44 : (rd l1_3 x6_1) < (x341001_1.length : Int)
      case neg =>
       rw [if_neg c44] at H
       exact absurd H (by simp)
      rw [if_pos c44] at H
      have c44b0 : decide ((rd l1_3 x6_1) < (x341001_1.length : Int)) = true := decide_eq_true c44
      clear c44
      obtain ⟨y343, hy343⟩ : ∃ y_ : List Int, y_ = (x341001_1.set ((rd l1_3 x6_1) : Int).toNat a1_0) := ⟨_, rfl⟩
      replace H : (clinkerref07_Apply.l0 kj20 (wrap64 (x6_1 + 1)) a1_0 a1_1 a1_2 l1_3 l1_4 y342 y343) = some (r1, r2) := by first | (rw [hy343]; with_reducible exact H) | (have H2_ := (Option.bind_some _ _).symm.trans H; rw [hy343]; with_reducible exact H2_) | (have H2_ := (Option.bind_some _ _).symm.trans H; with_reducible exact H2_) | with_reducible exact H | (rw [hy343]; exact H) | exact H
      have Ny343 := Aside0.mk hy343
      clear hy343
      have H' := Aside0.mk H
      clear H
      have hnb46 := NB332_331.out
      have hnc46 := NB331_332.out
      have hnb47 := NB332_333.out
      have hnc47 := NB333_332.out
      have hnb48 := NB332_340.out
      have hnc48 := NB340_332.out
      obtain ⟨hcz49_0, hcz49_1, hcz49_2, hcz49_3, hcz49_4, hfz49_0, hfz49_1, hfz49_2, hfz49_3, hfz49_4⟩ := kc5 BK332.out
      try go_wp2
      replace HO_341000 := Aside0.mk (Kd.R_drew HO_341000.out)
      replace HO_341001 := Aside0.mk (Kd.R_drew HO_341001.out)
      replace BK331 := Aside0.mk (bD BK331.out)
      replace BK332 := Aside0.mk (bD BK332.out)
      replace BK333 := Aside0.mk (bD BK333.out)
      replace BK340 := Aside0.mk (bD BK340.out)
      replace HB := Aside0.mk (lD HB.out)
      have p43 : 0 ≤ ((rd l1_3 x6_1) : Int) := of_decide_eq_true (by first | (with_reducible assumption) | assumption)
      have q43 : ((rd l1_3 x6_1) : Int) < ((x341000_1.length : Int) : Int) := of_decide_eq_true (by first | (with_reducible assumption) | assumption)
      obtain ⟨go43, co43, eo43, gb43, gl43, cl43, HG43⟩ := Kd.R_form HO_341000.out (by omega)
      (first | cases eo43 | (injection eo43 with ea_ en_ ec_; (first | subst ea_ | (injection ea_ with ea_; subst ea_)); subst ec_; clear en_))
      have GB43 := Aside0.mk gb43
      have GG43 := Aside0.mk HG43
      clear gb43 gl43 HG43
      obtain ⟨hx43_0, hf43_0⟩ := Kd.R_celln 0 HO_341000.out ((rd l1_3 x6_1) : Int) p43 q43
      replace p43 := eq_true p43
      replace q43 := eq_true q43
      have HP51 := Kd.R_putn HO_341000.out ((rd l1_3 x6_1) : Int) a1_0
      rw [← Ny342.out] at HP51
      have HQ51 := Aside0.mk HP51
      clear HP51
      have p45 : 0 ≤ ((rd l1_3 x6_1) : Int) := of_decide_eq_true (by first | (with_reducible assumption) | assumption)
      have q45 : ((rd l1_3 x6_1) : Int) < ((x341001_1.length : Int) : Int) := of_decide_eq_true (by first | (with_reducible assumption) | assumption)
      obtain ⟨go45, co45, eo45, gb45, gl45, cl45, HG45⟩ := Kd.R_form HO_341001.out (by omega)
      (first | cases eo45 | (injection eo45 with ea_ en_ ec_; (first | subst ea_ | (injection ea_ with ea_; subst ea_)); subst ec_; clear en_))
      have GB45 := Aside0.mk gb45
      have GG45 := Aside0.mk HG45
      clear gb45 gl45 HG45
      obtain ⟨hx45_0, hf45_0⟩ := Kd.R_celln 0 (Kd.R_far (p := ⟨go43, ((rd l1_3 x6_1) : Int).toNat, none⟩) (Kd.R_mono HO_341001.out (fun k_ hk => (⟨hk, fun e_ => hk (by rw [e_]; rfl)⟩ : _ ∧ k_ ≠ go43))) (fun _ hk => hk.2) (.int .i64 a1_0)) ((rd l1_3 x6_1) : Int) p45 q45
      replace p45 := eq_true p45
      replace q45 := eq_true q45
      have HP52 := Kd.R_putn (Kd.R_far (p := ⟨go43, ((rd l1_3 x6_1) : Int).toNat, none⟩) (Kd.R_mono HO_341001.out (fun k_ hk => (⟨hk, fun e_ => hk (by rw [e_]; rfl)⟩ : _ ∧ k_ ≠ go43))) (fun _ hk => hk.2) (.int .i64 a1_0)) ((rd l1_3 x6_1) : Int) a1_0
      rw [← Ny343.out] at HP52
      have HQ52 := Aside0.mk HP52
      clear HP52
      refine start_ (n := 14) (S := fun w' => w'.cell? ⟨gb340, 0, none⟩ = some (.slice (some ⟨go43, 0, none⟩) x341000_1.length co43) ∧ w'.cell? ⟨gb340, 1, none⟩ = some (.slice (some ⟨go45, 0, none⟩) x341001_1.length co45) ∧ w'.cell? ⟨gb332, 0, none⟩ = some (.int .i64 a1_0) ∧ w'.cell? ⟨gb332, 1, none⟩ = some (.int .i64 a1_1) ∧ w'.cell? ⟨gb332, 2, none⟩ = some (.int .i64 a1_2) ∧ w'.cell? ⟨gb332, 3, none⟩ = some (.slice (some ad341) l1_3.length c1_3) ∧ w'.cell? ⟨gb332, 4, none⟩ = some (.slice A1_4 l1_4.length c1_4)) (ds := [13]) q8k18 (by kernel_rfl) rfl rfl ⟨(blk_cell BK340.out 0).trans rfl, (blk_cell BK340.out 1).trans rfl, (blk_cell BK332.out 0).trans rfl, (blk_cell BK332.out 1).trans rfl, (blk_cell BK332.out 2).trans rfl, (blk_cell BK332.out 3).trans rfl, (blk_cell BK332.out 4).trans rfl⟩ (fun hHeld => ?_); refine with_tabW clinkerref07_Apply.tab8 clinkerref07_Apply.bits8 (fun HT_ HW_ => ?_)
      generalize wc.drew = w50 at HO_341000 HO_341001 BK331 BK332 BK333 BK340 HB GG43 GG45 HQ51 HQ52 hf43_0 hf45_0 hx43_0 hx45_0 hHeld ⊢
      refine pa 0 (some 50) ?_
      refine pa 2 (some 52) ?_
      refine pa 3 (some 53) ?_
      refine pa 5 (some 55) ?_
      refine pa 6 (some 56) ?_
      refine pa 8 (some 58) ?_
      refine ta 1 (some 51) hHeld ?_
      refine ta 4 (some 54) hHeld ?_
      refine ta 7 (some 57) hHeld ?_
      refine pa 10 (some 60) ?_
      refine ta 9 (some 59) hHeld ?_
      refine one_ (i := 11) (N := none) q9k18 rfl rfl (one_of HT_.out (by kernel_rfl)) (by decide) (fun K hK => ?_)
      refine skip_ (w1 := ?_) (by rfl) rfl ?_ ?_; rotate_left; (focus go_simp; rfl)
      refine hK.out _ _ ⟨((cell_far (p := ⟨go43, _, none⟩) (fun e_ => by have g_ := GG43.out; have b_ := BK340.out; rw [show gb340 = go43 from e_] at b_; rw [g_] at b_; simp at b_) _).trans (hHeld.1)), ((cell_far (p := ⟨go43, _, none⟩) (fun e_ => by have g_ := GG43.out; have b_ := BK340.out; rw [show gb340 = go43 from e_] at b_; rw [g_] at b_; simp at b_) _).trans (hHeld.2.1)), ((cell_far (p := ⟨go43, _, none⟩) (fun e_ => by have g_ := GG43.out; have b_ := BK332.out; rw [show gb332 = go43 from e_] at b_; rw [g_] at b_; simp at b_) _).trans (hHeld.2.2.1)), ((cell_far (p := ⟨go43, _, none⟩) (fun e_ => by have g_ := GG43.out; have b_ := BK332.out; rw [show gb332 = go43 from e_] at b_; rw [g_] at b_; simp at b_) _).trans (hHeld.2.2.2.1)), ((cell_far (p := ⟨go43, _, none⟩) (fun e_ => by have g_ := GG43.out; have b_ := BK332.out; rw [show gb332 = go43 from e_] at b_; rw [g_] at b_; simp at b_) _).trans (hHeld.2.2.2.2.1)), ((cell_far (p := ⟨go43, _, none⟩) (fun e_ => by have g_ := GG43.out; have b_ := BK332.out; rw [show gb332 = go43 from e_] at b_; rw [g_] at b_; simp at b_) _).trans (hHeld.2.2.2.2.2.1)), ((cell_far (p := ⟨go43, _, none⟩) (fun e_ => by have g_ := GG43.out; have b_ := BK332.out; rw [show gb332 = go43 from e_] at b_; rw [g_] at b_; simp at b_) _).trans (hHeld.2.2.2.2.2.2))⟩ (fun hHeld => ?_)
      clear hK K
      refine pa 12 (some 61) ?_
      refine last_ (i := 13) (N := none) q10k18 rfl rfl (one_of HT_.out (by kernel_rfl)) (by decide) (fun K hK => ?_)
      refine skip_ (w1 := ?_) (by rfl) rfl ?_ ?_; rotate_left; (focus go_simp; rfl)
      refine hK.out _ _ ?_
      clear hK K
      refine done_ (done_of HT_.out (by kernel_rfl)) ?_
      try go_wp2
      go_roundg kj20
      case measure => have := HK1.out; have := HJ20.out; omega
      case rel => exact ⟨(wrap64 (x6_1 + 1)), (y342), (y343), (.slice (some ⟨go43, 0, none⟩) x341000_1.length co43), (.slice (some ⟨go45, 0, none⟩) x341001_1.length co45), (by first | rfl | (simp; done) | (simp [*]; done)), H', ⟨by have := HK1.out; have := HJ20.out; omega⟩, ⟨by (with_reducible repeat (first | apply rA | apply rN | apply rD)); exact Kd.R_mono (Kd.R_far (p := ⟨go45, ((rd l1_3 x6_1) : Int).toNat, none⟩) (Kd.R_mono HQ51.out (fun k_ hk => (⟨hk, fun e_ => hk (by rw [e_]; rfl)⟩ : _ ∧ k_ ≠ go45))) (fun _ hk => hk.2) _) (fun _ hk => hk.1)⟩, ⟨by (with_reducible repeat (first | apply rA | apply rN | apply rD)); exact Kd.R_mono HQ52.out (fun _ hk => hk.1)⟩, ⟨by (with_reducible repeat (first | apply bN | apply bD | apply bA)); refine blk_far ?_ (by have h_ := Kd.R_ne HO_341001.out BK331.out (by decide); intro e_; exact h_ (by rw [e_]; rfl)) _; (with_reducible repeat (first | apply bN | apply bD | apply bA)); refine blk_far ?_ (by have h_ := Kd.R_ne HO_341000.out BK331.out (by decide); intro e_; exact h_ (by rw [e_]; rfl)) _; (with_reducible repeat (first | apply bN | apply bD | apply bA)); exact BK331.out⟩, ⟨by (with_reducible repeat (first | apply bN | apply bD | apply bA)); refine blk_far ?_ (by have h_ := Kd.R_ne HO_341001.out BK332.out (by decide); intro e_; exact h_ (by rw [e_]; rfl)) _; (with_reducible repeat (first | apply bN | apply bD | apply bA)); refine blk_far ?_ (by have h_ := Kd.R_ne HO_341000.out BK332.out (by decide); intro e_; exact h_ (by rw [e_]; rfl)) _; (with_reducible repeat (first | apply bN | apply bD | apply bA)); exact BK332.out⟩, ⟨by (with_reducible repeat (first | apply bN | apply bD | apply bA)); refine blk_far ?_ (by have h_ := Kd.R_ne HO_341001.out BK333.out (by decide); intro e_; exact h_ (by rw [e_]; rfl)) _; (with_reducible repeat (first | apply bN | apply bD | apply bA)); refine blk_far ?_ (by have h_ := Kd.R_ne HO_341000.out BK333.out (by decide); intro e_; exact h_ (by rw [e_]; rfl)) _; (with_reducible repeat (first | apply bN | apply bD | apply bA)); exact BK333.out⟩, ⟨by (with_reducible repeat (first | apply bN | apply bD | apply bA)); refine blk_far ?_ (by have h_ := Kd.R_ne HO_341001.out BK340.out (by decide); intro e_; exact h_ (by rw [e_]; rfl)) _; (with_reducible repeat (first | apply bN | apply bD | apply bA)); refine blk_far ?_ (by have h_ := Kd.R_ne HO_341000.out BK340.out (by decide); intro e_; exact h_ (by rw [e_]; rfl)) _; (with_reducible repeat (first | apply bN | apply bD | apply bA)); exact BK340.out⟩, ⟨by repeat (first | (with_reducible first | exact HB.out | apply lA | apply lN | apply lD | refine lS ?_ GB43.out | refine lS ?_ GB45.out | refine lS ?_ GE331.out | refine lS ?_ GE332.out | refine lS ?_ GE333.out | refine lS ?_ GE340.out) | exact HB.out)⟩⟩
     rw [if_neg c40] at H
     have c40b0 : (a1_1 == 1) = false := beq_eq_false_iff_ne.mpr c40
     have c40b1 : (a1_1 != 1) = true := bne_iff_ne.mpr c40
     by_cases c53 : a1_1 = 2
     case neg =>
      rw [if_neg c53] at H
      have c53b0 : (a1_1 == 2) = false := beq_eq_false_iff_ne.mpr c53
      have c53b1 : (a1_1 != 2) = true := bne_iff_ne.mpr c53
      have H' := Aside0.mk H
      clear H
      have hnb72 := NB332_331.out
      have hnc72 := NB331_332.out
      have hnb73 := NB332_333.out
      have hnc73 := NB333_332.out
      have hnb74 := NB332_340.out
      have hnc74 := NB340_332.out
      obtain ⟨hcz75_0, hcz75_1, hcz75_2, hcz75_3, hcz75_4, hfz75_0, hfz75_1, hfz75_2, hfz75_3, hfz75_4⟩ := kc5 BK332.out
      go_wp2
      go_roundg kj20
      case measure => have := HK1.out; have := HJ20.out; omega
      case rel => exact ⟨(wrap64 (x6_1 + 1)), (x341000_1), (x341001_1), (u341000), (u341001), (by first | rfl | (simp; done) | (simp [*]; done)), H', ⟨by have := HK1.out; have := HJ20.out; omega⟩, ⟨mR HO_341000.out⟩, ⟨mR HO_341001.out⟩, ⟨mB BK331.out⟩, ⟨mB BK332.out⟩, ⟨mB BK333.out⟩, ⟨mB BK340.out⟩, ⟨mH⟩⟩
     rw [if_pos c53] at H
     have c53b0 : (a1_1 == 2) = true := beq_iff_eq.mpr c53
     have c53b1 : (a1_1 != 2) = false := bne_eq_false_iff_eq.mpr c53
     clear c53
     by_cases c54 : x6_1 < (l1_4.length : Int)
     case neg =>
      rw [if_neg c54] at H
      have c54b0 : decide (x6_1 < (l1_4.length : Int)) = false := decide_eq_false c54
      clear c54
      have H' := Aside0.mk H
      clear H
      have hnb68 := NB332_331.out
      have hnc68 := NB331_332.out
      have hnb69 := NB332_333.out
      have hnc69 := NB333_332.out
      have hnb70 := NB332_340.out
      have hnc70 := NB340_332.out
      obtain ⟨hcz71_0, hcz71_1, hcz71_2, hcz71_3, hcz71_4, hfz71_0, hfz71_1, hfz71_2, hfz71_3, hfz71_4⟩ := kc5 BK332.out
      go_wp2
      go_roundg kj20
      case measure => have := HK1.out; have := HJ20.out; omega
      case rel => exact ⟨(wrap64 (x6_1 + 1)), (x341000_1), (x341001_1), (u341000), (u341001), (by first | rfl | (simp; done) | (simp [*]; done)), H', ⟨by have := HK1.out; have := HJ20.out; omega⟩, ⟨mR HO_341000.out⟩, ⟨mR HO_341001.out⟩, ⟨mB BK331.out⟩, ⟨mB BK332.out⟩, ⟨mB BK333.out⟩, ⟨mB BK340.out⟩, ⟨mH⟩⟩
     rw [if_pos c54] at H
     have c54b0 : decide (x6_1 < (l1_4.length : Int)) = true := decide_eq_true c54
     clear c54
     by_cases c55 : 0 ≤ x6_1
     case neg =>
      rw [if_neg c55] at H
      exact absurd H (by simp)
     rw [if_pos c55] at H
     have c55b0 : decide (0 ≤ x6_1) = true := decide_eq_true c55
     clear c55
     by_cases c56 : 0 ≤ (rd l1_3 x6_1)
     case neg =>
      rw [if_neg c56] at H
      exact absurd H (by simp)
     rw [if_pos c56] at H
     have c56b0 : decide (0 ≤ (rd l1_3 x6_1)) = true := decide_eq_true c56
     clear c56
     by_cases c57 : (rd l1_3 x6_1) < (x341000_1.length : Int)
     case neg =>
      rw [if_neg c57] at H
      exact absurd H (by simp)
     rw [if_pos c57] at H
     have c57b0 : decide ((rd l1_3 x6_1) < (x341000_1.length : Int)) = true := decide_eq_true c57
     clear c57
     obtain ⟨y345, hy345⟩ : ∃ y_ : List Int, y_ = (x341000_1.set ((rd l1_3 x6_1) : Int).toNat (rd l1_4 x6_1)) := ⟨_, rfl⟩
     replace H : (if (rd l1_3 x6_1) < (x341001_1.length : Int) then (clinkerref07_Apply.l0 kj20 (wrap64 (x6_1 + 1)) a1_0 a1_1 a1_2 l1_3 l1_4 y345 (x341001_1.set ((rd l1_3 x6_1) : Int).toNat a1_0)) else (none)) = some (r1, r2) := by first | (rw [hy345]; with_reducible exact H) | (have H2_ := (Option.bind_some _ _).symm.trans H; rw [hy345]; with_reducible exact H2_) | (have H2_ := (Option.bind_some _ _).symm.trans H; with_reducible exact H2_) | with_reducible exact H | (rw [hy345]; exact H) | exact H
     have Ny345 := Aside0.mk hy345
     clear hy345
     by_cases c59 : (rd l1_3 x6_1) < (x341001_1.length : Int)
     case neg =>
      rw [if_neg c59] at H
      exact absurd H (by simp)
     rw [if_pos c59] at H
     have c59b0 : decide ((rd l1_3 x6_1) < (x341001_1.length : Int)) = true := decide_eq_true c59
     clear c59
     obtain ⟨y346, hy346⟩ : ∃ y_ : List Int, y_ = (x341001_1.set ((rd l1_3 x6_1) : Int).toNat a1_0) := ⟨_, rfl⟩
     replace H : (clinkerref07_Apply.l0 kj20 (wrap64 (x6_1 + 1)) a1_0 a1_1 a1_2 l1_3 l1_4 y345 y346) = some (r1, r2) := by first | (rw [hy346]; with_reducible exact H) | (have H2_ := (Option.bind_some _ _).symm.trans H; rw [hy346]; with_reducible exact H2_) | (have H2_ := (Option.bind_some _ _).symm.trans H; with_reducible exact H2_) | with_reducible exact H | (rw [hy346]; exact H) | exact H
     have Ny346 := Aside0.mk hy346
     clear hy346
     have H' := Aside0.mk H
     clear H
     have hnb61 := NB332_331.out
     have hnc61 := NB331_332.out
     have hnb62 := NB332_333.out
     have hnc62 := NB333_332.out
     have hnb63 := NB332_340.out
     have hnc63 := NB340_332.out
     obtain ⟨hcz64_0, hcz64_1, hcz64_2, hcz64_3, hcz64_4, hfz64_0, hfz64_1, hfz64_2, hfz64_3, hfz64_4⟩ := kc5 BK332.out
     try go_wp2
     replace HO_341000 := Aside0.mk (Kd.R_drew HO_341000.out)
     replace HO_341001 := Aside0.mk (Kd.R_drew HO_341001.out)
     replace BK331 := Aside0.mk (bD BK331.out)
     replace BK332 := Aside0.mk (bD BK332.out)
     replace BK333 := Aside0.mk (bD BK333.out)
     replace BK340 := Aside0.mk (bD BK340.out)
     replace HB := Aside0.mk (lD HB.out)
     have p344 : 0 ≤ (x6_1 : Int) := of_decide_eq_true (by first | (with_reducible assumption) | assumption)
     have q344 : x6_1 < (l1_4.length : Int) := of_decide_eq_true (by first | (with_reducible assumption) | assumption)
     obtain ⟨ad344, e344, hx344_0⟩ := Kd.at_int HR1_4.out x6_1 p344 q344
     have hw344_0 := hx344_0
     cases e344
     replace hx344_0 := (HB.out.cell (World.block_lt_of_cell? w _ hx344_0)).trans hx344_0
     replace p344 := eq_true p344
     replace q344 := eq_true q344
     have p58 : 0 ≤ ((rd l1_3 x6_1) : Int) := of_decide_eq_true (by first | (with_reducible assumption) | assumption)
     have q58 : ((rd l1_3 x6_1) : Int) < ((x341000_1.length : Int) : Int) := of_decide_eq_true (by first | (with_reducible assumption) | assumption)
     obtain ⟨go58, co58, eo58, gb58, gl58, cl58, HG58⟩ := Kd.R_form HO_341000.out (by omega)
     (first | cases eo58 | (injection eo58 with ea_ en_ ec_; (first | subst ea_ | (injection ea_ with ea_; subst ea_)); subst ec_; clear en_))
     have GB58 := Aside0.mk gb58
     have GG58 := Aside0.mk HG58
     clear gb58 gl58 HG58
     obtain ⟨hx58_0, hf58_0⟩ := Kd.R_celln 0 HO_341000.out ((rd l1_3 x6_1) : Int) p58 q58
     replace p58 := eq_true p58
     replace q58 := eq_true q58
     have HP66 := Kd.R_putn HO_341000.out ((rd l1_3 x6_1) : Int) (rd l1_4 x6_1)
     rw [← Ny345.out] at HP66
     have HQ66 := Aside0.mk HP66
     clear HP66
     have p60 : 0 ≤ ((rd l1_3 x6_1) : Int) := of_decide_eq_true (by first | (with_reducible assumption) | assumption)
     have q60 : ((rd l1_3 x6_1) : Int) < ((x341001_1.length : Int) : Int) := of_decide_eq_true (by first | (with_reducible assumption) | assumption)
     obtain ⟨go60, co60, eo60, gb60, gl60, cl60, HG60⟩ := Kd.R_form HO_341001.out (by omega)
     (first | cases eo60 | (injection eo60 with ea_ en_ ec_; (first | subst ea_ | (injection ea_ with ea_; subst ea_)); subst ec_; clear en_))
     have GB60 := Aside0.mk gb60
     have GG60 := Aside0.mk HG60
     clear gb60 gl60 HG60
     obtain ⟨hx60_0, hf60_0⟩ := Kd.R_celln 0 (Kd.R_far (p := ⟨go58, ((rd l1_3 x6_1) : Int).toNat, none⟩) (Kd.R_mono HO_341001.out (fun k_ hk => (⟨hk, fun e_ => hk (by rw [e_]; rfl)⟩ : _ ∧ k_ ≠ go58))) (fun _ hk => hk.2) (.int .i64 (rd l1_4 x6_1))) ((rd l1_3 x6_1) : Int) p60 q60
     replace p60 := eq_true p60
     replace q60 := eq_true q60
     have HP67 := Kd.R_putn (Kd.R_far (p := ⟨go58, ((rd l1_3 x6_1) : Int).toNat, none⟩) (Kd.R_mono HO_341001.out (fun k_ hk => (⟨hk, fun e_ => hk (by rw [e_]; rfl)⟩ : _ ∧ k_ ≠ go58))) (fun _ hk => hk.2) (.int .i64 (rd l1_4 x6_1))) ((rd l1_3 x6_1) : Int) a1_0
     rw [← Ny346.out] at HP67
     have HQ67 := Aside0.mk HP67
     clear HP67
     refine start_ (n := 18) (S := fun w' => w'.cell? ⟨gb340, 0, none⟩ = some (.slice (some ⟨go58, 0, none⟩) x341000_1.length co58) ∧ w'.cell? ⟨gb340, 1, none⟩ = some (.slice (some ⟨go60, 0, none⟩) x341001_1.length co60) ∧ w'.cell? ⟨gb332, 0, none⟩ = some (.int .i64 a1_0) ∧ w'.cell? ⟨gb332, 1, none⟩ = some (.int .i64 a1_1) ∧ w'.cell? ⟨gb332, 2, none⟩ = some (.int .i64 a1_2) ∧ w'.cell? ⟨gb332, 3, none⟩ = some (.slice (some ad341) l1_3.length c1_3) ∧ w'.cell? ⟨gb332, 4, none⟩ = some (.slice (some ad344) l1_4.length c1_4) ∧ w'.cell? (ad344.add (x6_1).toNat) = some (.int .i64 (rd l1_4 x6_1))) (ds := [17]) q11k18 (by kernel_rfl) rfl rfl ⟨(blk_cell BK340.out 0).trans rfl, (blk_cell BK340.out 1).trans rfl, (blk_cell BK332.out 0).trans rfl, (blk_cell BK332.out 1).trans rfl, (blk_cell BK332.out 2).trans rfl, (blk_cell BK332.out 3).trans rfl, (blk_cell BK332.out 4).trans rfl, ((HB.out.cell (World.block_lt_of_cell? w _ hw344_0)).trans hw344_0)⟩ (fun hHeld => ?_); refine with_tabW clinkerref07_Apply.tab10 clinkerref07_Apply.bits10 (fun HT_ HW_ => ?_)
     generalize wc.drew = w65 at HO_341000 HO_341001 BK331 BK332 BK333 BK340 HB GG58 GG60 HQ66 HQ67 hf58_0 hf60_0 hx344_0 hx58_0 hx60_0 hHeld ⊢
     refine pa 0 (some 75) ?_
     refine pa 2 (some 77) ?_
     refine pa 3 (some 78) ?_
     refine pa 5 (some 80) ?_
     refine pa 6 (some 81) ?_
     refine pa 7 (some 82) ?_
     refine pa 9 (some 84) ?_
     refine pa 12 (some 87) ?_
     refine ta 1 (some 76) hHeld ?_
     refine ta 4 (some 79) hHeld ?_
     refine ta 8 (some 83) hHeld ?_
     refine pa 10 (some 85) ?_
     refine ta 11 (some 86) hHeld ?_
     refine pa 14 (some 89) ?_
     refine ta 13 (some 88) hHeld ?_
     refine one_ (i := 15) (N := none) q12k18 rfl rfl (one_of HT_.out (by kernel_rfl)) (by decide) (fun K hK => ?_)
     refine skip_ (w1 := ?_) (by rfl) rfl ?_ ?_; rotate_left; (focus go_simp; rfl)
     refine hK.out _ _ ⟨((cell_far (p := ⟨go58, _, none⟩) (fun e_ => by have g_ := GG58.out; have b_ := BK340.out; rw [show gb340 = go58 from e_] at b_; rw [g_] at b_; simp at b_) _).trans (hHeld.1)), ((cell_far (p := ⟨go58, _, none⟩) (fun e_ => by have g_ := GG58.out; have b_ := BK340.out; rw [show gb340 = go58 from e_] at b_; rw [g_] at b_; simp at b_) _).trans (hHeld.2.1)), ((cell_far (p := ⟨go58, _, none⟩) (fun e_ => by have g_ := GG58.out; have b_ := BK332.out; rw [show gb332 = go58 from e_] at b_; rw [g_] at b_; simp at b_) _).trans (hHeld.2.2.1)), ((cell_far (p := ⟨go58, _, none⟩) (fun e_ => by have g_ := GG58.out; have b_ := BK332.out; rw [show gb332 = go58 from e_] at b_; rw [g_] at b_; simp at b_) _).trans (hHeld.2.2.2.1)), ((cell_far (p := ⟨go58, _, none⟩) (fun e_ => by have g_ := GG58.out; have b_ := BK332.out; rw [show gb332 = go58 from e_] at b_; rw [g_] at b_; simp at b_) _).trans (hHeld.2.2.2.2.1)), ((cell_far (p := ⟨go58, _, none⟩) (fun e_ => by have g_ := GG58.out; have b_ := BK332.out; rw [show gb332 = go58 from e_] at b_; rw [g_] at b_; simp at b_) _).trans (hHeld.2.2.2.2.2.1)), ((cell_far (p := ⟨go58, _, none⟩) (fun e_ => by have g_ := GG58.out; have b_ := BK332.out; rw [show gb332 = go58 from e_] at b_; rw [g_] at b_; simp at b_) _).trans (hHeld.2.2.2.2.2.2.1)), ((cell_far (p := ⟨go58, _, none⟩) (Nat.ne_of_lt (Nat.lt_of_lt_of_le (World.block_lt_of_cell? _ _ hw344_0) GB58.out)) _).trans (hHeld.2.2.2.2.2.2.2))⟩ (fun hHeld => ?_)
     clear hK K
     refine pa 16 (some 90) ?_
     refine last_ (i := 17) (N := none) q13k18 rfl rfl (one_of HT_.out (by kernel_rfl)) (by decide) (fun K hK => ?_)
     refine skip_ (w1 := ?_) (by rfl) rfl ?_ ?_; rotate_left; (focus go_simp; rfl)
     refine hK.out _ _ ?_
     clear hK K
     refine done_ (done_of HT_.out (by kernel_rfl)) ?_
     try go_wp2
     go_roundg kj20
     case measure => have := HK1.out; have := HJ20.out; omega
     case rel => exact ⟨(wrap64 (x6_1 + 1)), (y345), (y346), (.slice (some ⟨go58, 0, none⟩) x341000_1.length co58), (.slice (some ⟨go60, 0, none⟩) x341001_1.length co60), (by first | rfl | (simp; done) | (simp [*]; done)), H', ⟨by have := HK1.out; have := HJ20.out; omega⟩, ⟨by (with_reducible repeat (first | apply rA | apply rN | apply rD)); exact Kd.R_mono (Kd.R_far (p := ⟨go60, ((rd l1_3 x6_1) : Int).toNat, none⟩) (Kd.R_mono HQ66.out (fun k_ hk => (⟨hk, fun e_ => hk (by rw [e_]; rfl)⟩ : _ ∧ k_ ≠ go60))) (fun _ hk => hk.2) _) (fun _ hk => hk.1)⟩, ⟨by (with_reducible repeat (first | apply rA | apply rN | apply rD)); exact Kd.R_mono HQ67.out (fun _ hk => hk.1)⟩, ⟨by (with_reducible repeat (first | apply bN | apply bD | apply bA)); refine blk_far ?_ (by have h_ := Kd.R_ne HO_341001.out BK331.out (by decide); intro e_; exact h_ (by rw [e_]; rfl)) _; (with_reducible repeat (first | apply bN | apply bD | apply bA)); refine blk_far ?_ (by have h_ := Kd.R_ne HO_341000.out BK331.out (by decide); intro e_; exact h_ (by rw [e_]; rfl)) _; (with_reducible repeat (first | apply bN | apply bD | apply bA)); exact BK331.out⟩, ⟨by (with_reducible repeat (first | apply bN | apply bD | apply bA)); refine blk_far ?_ (by have h_ := Kd.R_ne HO_341001.out BK332.out (by decide); intro e_; exact h_ (by rw [e_]; rfl)) _; (with_reducible repeat (first | apply bN | apply bD | apply bA)); refine blk_far ?_ (by have h_ := Kd.R_ne HO_341000.out BK332.out (by decide); intro e_; exact h_ (by rw [e_]; rfl)) _; (with_reducible repeat (first | apply bN | apply bD | apply bA)); exact BK332.out⟩, ⟨by (with_reducible repeat (first | apply bN | apply bD | apply bA)); refine blk_far ?_ (by have h_ := Kd.R_ne HO_341001.out BK333.out (by decide); intro e_; exact h_ (by rw [e_]; rfl)) _; (with_reducible repeat (first | apply bN | apply bD | apply bA)); refine blk_far ?_ (by have h_ := Kd.R_ne HO_341000.out BK333.out (by decide); intro e_; exact h_ (by rw [e_]; rfl)) _; (with_reducible repeat (first | apply bN | apply bD | apply bA)); exact BK333.out⟩, ⟨by (with_reducible repeat (first | apply bN | apply bD | apply bA)); refine blk_far ?_ (by have h_ := Kd.R_ne HO_341001.out BK340.out (by decide); intro e_; exact h_ (by rw [e_]; rfl)) _; (with_reducible repeat (first | apply bN | apply bD | apply bA)); refine blk_far ?_ (by have h_ := Kd.R_ne HO_341000.out BK340.out (by decide); intro e_; exact h_ (by rw [e_]; rfl)) _; (with_reducible repeat (first | apply bN | apply bD | apply bA)); exact BK340.out⟩, ⟨by repeat (first | (with_reducible first | exact HB.out | apply lA | apply lN | apply lD | refine lS ?_ GB58.out | refine lS ?_ GB60.out | refine lS ?_ GE331.out | refine lS ?_ GE332.out | refine lS ?_ GE333.out | refine lS ?_ GE340.out) | exact HB.out)⟩⟩

end Go.Proofs.Ytfolonajajideaa.PAll
