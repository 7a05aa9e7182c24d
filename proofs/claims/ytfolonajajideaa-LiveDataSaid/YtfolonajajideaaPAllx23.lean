/- Written by a program of this session (wip/xp) out of the translation: functions in plain Lean, and proofs that the calls come to these. -/
import Derived.Test.YtfolonajajideaaPAllx0
import Derived.Test.YtfolonajajideaaPAllx3
import Derived.Test.YtfolonajajideaaPAllx4
import Derived.Test.YtfolonajajideaaPAllx6
import Derived.Test.YtfolonajajideaaPAllx13
import Derived.Test.YtfolonajajideaaPAllx17
import Derived.Test.YtfolonajajideaaPAllx19
import Derived.Test.YtfolonajajideaaShort
namespace Go.Proofs.Ytfolonajajideaa.PAll
open Go.RowKit Go.Proofs.YtfolonajajideaaW.PrintWords Go.Proofs.YtfolonajajideaaW.PrintLast Go.Proofs.YtfolonajajideaaW.PrintMore
attribute [local go_sem] max2_int min2_int max_two min_two max_three min_three max_four min_four   -- for this text's walks alone
set_option linter.unusedVariables false
set_option linter.unusedSimpArgs false

/-! ### clinkerlaw08_LiveData: function 6 -/
mutual
def clinkerlaw08_LiveData.l0 : Nat → Bool → List (S44) → Int → List Int → List Int → Option (Bool)
 | 0, _, _, _, _, _ => none
 | k + 1, x3, x7, x8, x441000, x441001 => if x8 < (x7.length : Int) then (clinkerlaw08_LiveData.l1 k x3 x7 x8 false 0 x441000 x441001) else (some x3)
def clinkerlaw08_LiveData.l1 : Nat → Bool → List (S44) → Int → Bool → Int → List Int → List Int → Option (Bool)
 | 0, _, _, _, _, _, _, _ => none
 | k + 1, x3, x7, x8, x9, x10, x441000, x441001 => if 0 ≤ x8 then (if x8 < (x7.length : Int) then (if x10 < (((rd_T44 x7 x8).f1.f2).length : Int) then (clinkerlaw08_LiveData.l2 k x3 x7 x8 x9 x10 false (wrap64 (x8 + 1)) x441000 x441001) else (if x9 = true then ((live_Live.f k x441000 x441001 ((rd_T44 x7 x8).f0)).bind fun t451 => (clinkerlaw08_LiveData.j4 k x3 x7 x8 x9 (!t451) x441000 x441001)) else (clinkerlaw08_LiveData.j4 k x3 x7 x8 x9 false x441000 x441001))) else (none)) else (none)
def clinkerlaw08_LiveData.l2 : Nat → Bool → List (S44) → Int → Bool → Int → Bool → Int → List Int → List Int → Option (Bool)
 | 0, _, _, _, _, _, _, _, _, _ => none
 | k + 1, x3, x7, x8, x9, x10, x11, x12, x441000, x441001 => if x12 < (x7.length : Int) then (clinkerlaw08_LiveData.l3 k x3 x7 x8 x9 x10 x11 x12 0 x441000 x441001) else (if x9 = true then (clinkerlaw08_LiveData.l1 k x3 x7 x8 true (wrap64 (x10 + 1)) x441000 x441001) else (clinkerlaw08_LiveData.l1 k x3 x7 x8 (!x11) (wrap64 (x10 + 1)) x441000 x441001))
def clinkerlaw08_LiveData.l3 : Nat → Bool → List (S44) → Int → Bool → Int → Bool → Int → Int → List Int → List Int → Option (Bool)
 | 0, _, _, _, _, _, _, _, _, _, _ => none
 | k + 1, x3, x7, x8, x9, x10, x11, x12, x13, x441000, x441001 => if 0 ≤ x12 then (if x12 < (x7.length : Int) then (if x13 < (((rd_T44 x7 x12).f1.f2).length : Int) then (if x11 = true then (clinkerlaw08_LiveData.l3 k x3 x7 x8 x9 x10 true x12 (wrap64 (x13 + 1)) x441000 x441001) else (if 0 ≤ x13 then (if 0 ≤ x8 then (if x8 < (x7.length : Int) then (if 0 ≤ x10 then (if x10 < (((rd_T44 x7 x8).f1.f2).length : Int) then (clinkerlaw08_LiveData.l3 k x3 x7 x8 x9 x10 ((rd ((rd_T44 x7 x12).f1.f2) x13) == (rd ((rd_T44 x7 x8).f1.f2) x10)) x12 (wrap64 (x13 + 1)) x441000 x441001) else (none)) else (none)) else (none)) else (none)) else (none))) else (clinkerlaw08_LiveData.l2 k x3 x7 x8 x9 x10 x11 (wrap64 (x12 + 1)) x441000 x441001)) else (none)) else (none)
def clinkerlaw08_LiveData.j4 : Nat → Bool → List (S44) → Int → Bool → Bool → List Int → List Int → Option (Bool)
 | 0, _, _, _, _, _, _, _ => none
 | k + 1, x3, x7, x8, x9, x99, x441000, x441001 => if x99 = true then (some false) else (if x9 = true then (clinkerlaw08_LiveData.l0 k x3 x7 (wrap64 (x8 + 1)) x441000 x441001) else (if 0 ≤ x8 then (if x8 < (x7.length : Int) then ((live_Says.f x441000 x441001 ((rd_T44 x7 x8).f0)).bind fun t453 => (if (t453.length : Int) > 0 then (some false) else (clinkerlaw08_LiveData.l0 k x3 x7 (wrap64 (x8 + 1)) x441000 x441001))) else (none)) else (none)))
end
def clinkerlaw08_LiveData.f (k : Nat) (l0 : List Int) : Option (Bool) := (clinkerlaw08_awake.f k).bind fun t425 => (if t425 = true then ((clinkerlaw06_Made.f k l0 4 5).bind fun bt426 => ((clinkerref07_Replay.f k bt426.1 bt426.2.1 bt426.2.2.1 bt426.2.2.2 64).bind fun bt433 => ((clinkerref06_All.f k bt426.1 bt426.2.1 bt426.2.2.1 bt426.2.2.2).bind fun t441 => (clinkerlaw08_LiveData.l0 k t425 t441 0 bt433.1 bt433.2.1)))) else (some false))
theorem clinkerlaw08_LiveData.mono_l : ∀ k, (∀ y0 y1 y2 y3 y4, LeO (clinkerlaw08_LiveData.l0 k y0 y1 y2 y3 y4) (clinkerlaw08_LiveData.l0 (k + 1) y0 y1 y2 y3 y4)) ∧ (∀ y0 y1 y2 y3 y4 y5 y6, LeO (clinkerlaw08_LiveData.l1 k y0 y1 y2 y3 y4 y5 y6) (clinkerlaw08_LiveData.l1 (k + 1) y0 y1 y2 y3 y4 y5 y6)) ∧ (∀ y0 y1 y2 y3 y4 y5 y6 y7 y8, LeO (clinkerlaw08_LiveData.l2 k y0 y1 y2 y3 y4 y5 y6 y7 y8) (clinkerlaw08_LiveData.l2 (k + 1) y0 y1 y2 y3 y4 y5 y6 y7 y8)) ∧ (∀ y0 y1 y2 y3 y4 y5 y6 y7 y8 y9, LeO (clinkerlaw08_LiveData.l3 k y0 y1 y2 y3 y4 y5 y6 y7 y8 y9) (clinkerlaw08_LiveData.l3 (k + 1) y0 y1 y2 y3 y4 y5 y6 y7 y8 y9)) ∧ (∀ y0 y1 y2 y3 y4 y5 y6, LeO (clinkerlaw08_LiveData.j4 k y0 y1 y2 y3 y4 y5 y6) (clinkerlaw08_LiveData.j4 (k + 1) y0 y1 y2 y3 y4 y5 y6))
 | 0 => ⟨fun _ _ _ _ _ r h => by simp [clinkerlaw08_LiveData.l0] at h, fun _ _ _ _ _ _ _ r h => by simp [clinkerlaw08_LiveData.l1] at h, fun _ _ _ _ _ _ _ _ _ r h => by simp [clinkerlaw08_LiveData.l2] at h, fun _ _ _ _ _ _ _ _ _ _ r h => by simp [clinkerlaw08_LiveData.l3] at h, fun _ _ _ _ _ _ _ r h => by simp [clinkerlaw08_LiveData.j4] at h⟩
 | k + 1 => by
  obtain ⟨ih0, ih1, ih2, ih3, ih4⟩ := clinkerlaw08_LiveData.mono_l k
  refine ⟨?_, ?_, ?_, ?_, ?_⟩
  ·
   intro y0 y1 y2 y3 y4
   unfold clinkerlaw08_LiveData.l0
   repeat' first
   | (with_reducible exact ih0 _ _ _ _ _)
   | (with_reducible exact ih1 _ _ _ _ _ _ _)
   | (with_reducible exact ih2 _ _ _ _ _ _ _ _ _)
   | (with_reducible exact ih3 _ _ _ _ _ _ _ _ _ _)
   | (with_reducible exact ih4 _ _ _ _ _ _ _)
   | (with_reducible exact clinkerlaw06_Made.mono _ _ _ _)
   | (with_reducible exact clinkerlaw08_awake.mono _)
   | (with_reducible exact clinkerref06_All.mono _ _ _ _ _)
   | (with_reducible exact clinkerref07_Replay.mono _ _ _ _ _ _)
   | (with_reducible exact live_Live.mono _ _ _ _)
   | (with_reducible exact LeO.refl _)
   | (with_reducible exact LeO.none _)
   | (with_reducible refine LeO.ite ?_ ?_)
   | (with_reducible refine LeO.bind ?_ (fun _ => ?_))
   | exact ih0 _ _ _ _ _
   | exact ih1 _ _ _ _ _ _ _
   | exact ih2 _ _ _ _ _ _ _ _ _
   | exact ih3 _ _ _ _ _ _ _ _ _ _
   | exact ih4 _ _ _ _ _ _ _
   | exact clinkerlaw06_Made.mono _ _ _ _
   | exact clinkerlaw08_awake.mono _
   | exact clinkerref06_All.mono _ _ _ _ _
   | exact clinkerref07_Replay.mono _ _ _ _ _ _
   | exact live_Live.mono _ _ _ _
   | exact LeO.none _
   | refine LeO.ite ?_ ?_
   | refine LeO.bind ?_ (fun _ => ?_)
  ·
   intro y0 y1 y2 y3 y4 y5 y6
   unfold clinkerlaw08_LiveData.l1
   repeat' first
   | (with_reducible exact ih0 _ _ _ _ _)
   | (with_reducible exact ih1 _ _ _ _ _ _ _)
   | (with_reducible exact ih2 _ _ _ _ _ _ _ _ _)
   | (with_reducible exact ih3 _ _ _ _ _ _ _ _ _ _)
   | (with_reducible exact ih4 _ _ _ _ _ _ _)
   | (with_reducible exact clinkerlaw06_Made.mono _ _ _ _)
   | (with_reducible exact clinkerlaw08_awake.mono _)
   | (with_reducible exact clinkerref06_All.mono _ _ _ _ _)
   | (with_reducible exact clinkerref07_Replay.mono _ _ _ _ _ _)
   | (with_reducible exact live_Live.mono _ _ _ _)
   | (with_reducible exact LeO.refl _)
   | (with_reducible exact LeO.none _)
   | (with_reducible refine LeO.ite ?_ ?_)
   | (with_reducible refine LeO.bind ?_ (fun _ => ?_))
   | exact ih0 _ _ _ _ _
   | exact ih1 _ _ _ _ _ _ _
   | exact ih2 _ _ _ _ _ _ _ _ _
   | exact ih3 _ _ _ _ _ _ _ _ _ _
   | exact ih4 _ _ _ _ _ _ _
   | exact clinkerlaw06_Made.mono _ _ _ _
   | exact clinkerlaw08_awake.mono _
   | exact clinkerref06_All.mono _ _ _ _ _
   | exact clinkerref07_Replay.mono _ _ _ _ _ _
   | exact live_Live.mono _ _ _ _
   | exact LeO.none _
   | refine LeO.ite ?_ ?_
   | refine LeO.bind ?_ (fun _ => ?_)
  ·
   intro y0 y1 y2 y3 y4 y5 y6 y7 y8
   unfold clinkerlaw08_LiveData.l2
   repeat' first
   | (with_reducible exact ih0 _ _ _ _ _)
   | (with_reducible exact ih1 _ _ _ _ _ _ _)
   | (with_reducible exact ih2 _ _ _ _ _ _ _ _ _)
   | (with_reducible exact ih3 _ _ _ _ _ _ _ _ _ _)
   | (with_reducible exact ih4 _ _ _ _ _ _ _)
   | (with_reducible exact clinkerlaw06_Made.mono _ _ _ _)
   | (with_reducible exact clinkerlaw08_awake.mono _)
   | (with_reducible exact clinkerref06_All.mono _ _ _ _ _)
   | (with_reducible exact clinkerref07_Replay.mono _ _ _ _ _ _)
   | (with_reducible exact live_Live.mono _ _ _ _)
   | (with_reducible exact LeO.refl _)
   | (with_reducible exact LeO.none _)
   | (with_reducible refine LeO.ite ?_ ?_)
   | (with_reducible refine LeO.bind ?_ (fun _ => ?_))
   | exact ih0 _ _ _ _ _
   | exact ih1 _ _ _ _ _ _ _
   | exact ih2 _ _ _ _ _ _ _ _ _
   | exact ih3 _ _ _ _ _ _ _ _ _ _
   | exact ih4 _ _ _ _ _ _ _
   | exact clinkerlaw06_Made.mono _ _ _ _
   | exact clinkerlaw08_awake.mono _
   | exact clinkerref06_All.mono _ _ _ _ _
   | exact clinkerref07_Replay.mono _ _ _ _ _ _
   | exact live_Live.mono _ _ _ _
   | exact LeO.none _
   | refine LeO.ite ?_ ?_
   | refine LeO.bind ?_ (fun _ => ?_)
  ·
   intro y0 y1 y2 y3 y4 y5 y6 y7 y8 y9
   unfold clinkerlaw08_LiveData.l3
   repeat' first
   | (with_reducible exact ih0 _ _ _ _ _)
   | (with_reducible exact ih1 _ _ _ _ _ _ _)
   | (with_reducible exact ih2 _ _ _ _ _ _ _ _ _)
   | (with_reducible exact ih3 _ _ _ _ _ _ _ _ _ _)
   | (with_reducible exact ih4 _ _ _ _ _ _ _)
   | (with_reducible exact clinkerlaw06_Made.mono _ _ _ _)
   | (with_reducible exact clinkerlaw08_awake.mono _)
   | (with_reducible exact clinkerref06_All.mono _ _ _ _ _)
   | (with_reducible exact clinkerref07_Replay.mono _ _ _ _ _ _)
   | (with_reducible exact live_Live.mono _ _ _ _)
   | (with_reducible exact LeO.refl _)
   | (with_reducible exact LeO.none _)
   | (with_reducible refine LeO.ite ?_ ?_)
   | (with_reducible refine LeO.bind ?_ (fun _ => ?_))
   | exact ih0 _ _ _ _ _
   | exact ih1 _ _ _ _ _ _ _
   | exact ih2 _ _ _ _ _ _ _ _ _
   | exact ih3 _ _ _ _ _ _ _ _ _ _
   | exact ih4 _ _ _ _ _ _ _
   | exact clinkerlaw06_Made.mono _ _ _ _
   | exact clinkerlaw08_awake.mono _
   | exact clinkerref06_All.mono _ _ _ _ _
   | exact clinkerref07_Replay.mono _ _ _ _ _ _
   | exact live_Live.mono _ _ _ _
   | exact LeO.none _
   | refine LeO.ite ?_ ?_
   | refine LeO.bind ?_ (fun _ => ?_)
  ·
   intro y0 y1 y2 y3 y4 y5 y6
   unfold clinkerlaw08_LiveData.j4
   repeat' first
   | (with_reducible exact ih0 _ _ _ _ _)
   | (with_reducible exact ih1 _ _ _ _ _ _ _)
   | (with_reducible exact ih2 _ _ _ _ _ _ _ _ _)
   | (with_reducible exact ih3 _ _ _ _ _ _ _ _ _ _)
   | (with_reducible exact ih4 _ _ _ _ _ _ _)
   | (with_reducible exact clinkerlaw06_Made.mono _ _ _ _)
   | (with_reducible exact clinkerlaw08_awake.mono _)
   | (with_reducible exact clinkerref06_All.mono _ _ _ _ _)
   | (with_reducible exact clinkerref07_Replay.mono _ _ _ _ _ _)
   | (with_reducible exact live_Live.mono _ _ _ _)
   | (with_reducible exact LeO.refl _)
   | (with_reducible exact LeO.none _)
   | (with_reducible refine LeO.ite ?_ ?_)
   | (with_reducible refine LeO.bind ?_ (fun _ => ?_))
   | exact ih0 _ _ _ _ _
   | exact ih1 _ _ _ _ _ _ _
   | exact ih2 _ _ _ _ _ _ _ _ _
   | exact ih3 _ _ _ _ _ _ _ _ _ _
   | exact ih4 _ _ _ _ _ _ _
   | exact clinkerlaw06_Made.mono _ _ _ _
   | exact clinkerlaw08_awake.mono _
   | exact clinkerref06_All.mono _ _ _ _ _
   | exact clinkerref07_Replay.mono _ _ _ _ _ _
   | exact live_Live.mono _ _ _ _
   | exact LeO.none _
   | refine LeO.ite ?_ ?_
   | refine LeO.bind ?_ (fun _ => ?_)
theorem clinkerlaw08_LiveData.mono : ∀ a0 k, LeO (clinkerlaw08_LiveData.f k a0) (clinkerlaw08_LiveData.f (k + 1) a0) := by
 intro a0 k
 obtain ⟨ih0, ih1, ih2, ih3, ih4⟩ := clinkerlaw08_LiveData.mono_l k
 unfold clinkerlaw08_LiveData.f
 repeat' first
   | (with_reducible exact ih0 _ _ _ _ _)
   | (with_reducible exact ih1 _ _ _ _ _ _ _)
   | (with_reducible exact ih2 _ _ _ _ _ _ _ _ _)
   | (with_reducible exact ih3 _ _ _ _ _ _ _ _ _ _)
   | (with_reducible exact ih4 _ _ _ _ _ _ _)
   | (with_reducible exact clinkerlaw06_Made.mono _ _ _ _)
   | (with_reducible exact clinkerlaw08_awake.mono _)
   | (with_reducible exact clinkerref06_All.mono _ _ _ _ _)
   | (with_reducible exact clinkerref07_Replay.mono _ _ _ _ _ _)
   | (with_reducible exact live_Live.mono _ _ _ _)
   | (with_reducible exact LeO.refl _)
   | (with_reducible exact LeO.none _)
   | (with_reducible refine LeO.ite ?_ ?_)
   | (with_reducible refine LeO.bind ?_ (fun _ => ?_))
   | exact ih0 _ _ _ _ _
   | exact ih1 _ _ _ _ _ _ _
   | exact ih2 _ _ _ _ _ _ _ _ _
   | exact ih3 _ _ _ _ _ _ _ _ _ _
   | exact ih4 _ _ _ _ _ _ _
   | exact clinkerlaw06_Made.mono _ _ _ _
   | exact clinkerlaw08_awake.mono _
   | exact clinkerref06_All.mono _ _ _ _ _
   | exact clinkerref07_Replay.mono _ _ _ _ _ _
   | exact live_Live.mono _ _ _ _
   | exact LeO.none _
   | refine LeO.ite ?_ ?_
   | refine LeO.bind ?_ (fun _ => ?_)
def clinkerlaw08_LiveData.T21 : Bool × List (List Nat × List Nat) := (true, [([], []), ([0], [0]), ([1], [1]), ([1], [1]), ([2, 3, 1], [1, 2, 3]), ([4, 1], [1, 4]), ([5, 1], [1, 5]), ([6, 1], [1, 6]), ([1], [1]), ([7, 8, 1], [1, 7, 8]), ([9, 1], [1, 9]), ([1], [1]), ([1], [1]), ([11, 12, 1], [1, 11, 12]), ([13, 1], [1, 13]), ([14, 1], [1, 14]), ([15, 1], [1, 15]), ([1], [1]), ([16, 17, 1], [1, 16, 17]), ([18, 1], [1, 18]), ([10, 19, 1], [1, 10, 19]), ([1, 20], [1, 20]), ([21, 1, 0, 1, 2, 3, 4, 5, 6, 7, 8, 9, 10, 11, 12, 13, 14, 15, 16, 17, 18, 19, 20, 21], [0, 21])])
def clinkerlaw08_LiveData.B21 : List Nat := [0, 1, 3, 3, 15, 31, 63, 127, 3, 511, 1023, 3, 3, 6147, 14339, 30723, 63491, 3, 260099, 522243, 1048575, 2097151, 4194303]
theorem clinkerlaw08_LiveData.tab21 : rtab .any (opsOf Try.f6 21) = clinkerlaw08_LiveData.T21 := by kernel_rfl
theorem clinkerlaw08_LiveData.bits21 : waitsOk clinkerlaw08_LiveData.T21.2 clinkerlaw08_LiveData.B21 = true := by kernel_rfl
def clinkerlaw08_LiveData.T23 : Bool × List (List Nat × List Nat) := (true, [([], []), ([0], [0]), ([1], [1]), ([1], [1]), ([1], [1]), ([3, 4, 1], [1, 3, 4]), ([5, 1], [1, 5]), ([6, 1], [1, 6]), ([2, 7, 1, 1], [1, 2, 7]), ([8, 1], [1, 8]), ([1, 9], [1, 9])])
def clinkerlaw08_LiveData.B23 : List Nat := [0, 1, 3, 3, 3, 27, 59, 123, 255, 511, 1023]
theorem clinkerlaw08_LiveData.tab23 : rtab .any (opsOf Try.f6 23) = clinkerlaw08_LiveData.T23 := by kernel_rfl
theorem clinkerlaw08_LiveData.bits23 : waitsOk clinkerlaw08_LiveData.T23.2 clinkerlaw08_LiveData.B23 = true := by kernel_rfl
def clinkerlaw08_LiveData.T25 : Bool × List (List Nat × List Nat) := (true, [([], []), ([0], [0]), ([1], [1]), ([2], [2]), ([2], [2]), ([2], [2]), ([4, 5, 2], [2, 4, 5]), ([6, 2], [2, 6]), ([7, 2], [2, 7]), ([3, 8, 2, 2], [2, 3, 8]), ([9, 2], [2, 9]), ([10, 2], [2, 10]), ([2, 11], [2, 11])])
def clinkerlaw08_LiveData.B25 : List Nat := [0, 1, 3, 7, 7, 7, 55, 119, 247, 511, 1023, 2047, 4095]
theorem clinkerlaw08_LiveData.tab25 : rtab .any (opsOf Try.f6 25) = clinkerlaw08_LiveData.T25 := by kernel_rfl
theorem clinkerlaw08_LiveData.bits25 : waitsOk clinkerlaw08_LiveData.T25.2 clinkerlaw08_LiveData.B25 = true := by kernel_rfl
abbrev q0k23 : Array Bool := #[false, false, false, false, false, false, false, false, false, false, false, false, false, false, false, false, false, false, false, false, false, false, false]
abbrev q1k23 : Array Bool := #[false, false, false, false, false, false, false, false, false, false, false]
abbrev q2k23 : Array Bool := #[true, true, true, true, true, true, true, true, true, false, false]
abbrev q3k23 : Array Bool := #[false, false, false, false, false, false, false, false, false, false, false, false, false]
abbrev q4k23 : Array Bool := #[true, true, true, true, true, true, true, true, true, true, false, false, false]
set_option maxHeartbeats 8000000 in
set_option maxRecDepth 100000 in
theorem clinkerlaw08_LiveData.calls (k : Nat) (A0 : Option Addr) (c0 : Nat) (l0 : List Int) (r : Bool) (w : World) (hr0 : Kd.C (Kd.int .u16) w A0 l0.length l0) (hc0 : l0.length ≤ c0) (h : clinkerlaw08_LiveData.f k l0 = some r) :
  Calls Try.prog 6 #[.slice A0 l0.length c0] w fun e w' => e = .returned (.bool r) ∧ Below w.heap.size w w' := by
 have hu32 := Try.underlying32
 have hu24 := Try.underlying24
 have HR0 := Aside0.mk hr0
 have HC0 := Aside0.mk hc0
 clear hr0 hc0
 have HB := Aside0.mk (Below.refl w.heap.size w)
 have H : ((clinkerlaw08_awake.f k).bind fun t425 => (if t425 = true then ((clinkerlaw06_Made.f k l0 4 5).bind fun bt426 => ((clinkerref07_Replay.f k bt426.1 bt426.2.1 bt426.2.2.1 bt426.2.2.2 64).bind fun bt433 => ((clinkerref06_All.f k bt426.1 bt426.2.1 bt426.2.2.1 bt426.2.2.2).bind fun t441 => (clinkerlaw08_LiveData.l0 k t425 t441 0 bt433.1 bt433.2.1)))) else (some false))) = some r := h
 clear h
 replace H := Option.bind_eq_some_iff.mp H
 obtain ⟨t425, A20, H⟩ := H
 replace H : (if t425 = true then ((clinkerlaw06_Made.f k l0 4 5).bind fun bt426 => ((clinkerref07_Replay.f k bt426.1 bt426.2.1 bt426.2.2.1 bt426.2.2.2 64).bind fun bt433 => ((clinkerref06_All.f k bt426.1 bt426.2.1 bt426.2.2.1 bt426.2.2.2).bind fun t441 => (clinkerlaw08_LiveData.l0 k t425 t441 0 bt433.1 bt433.2.1)))) else (some false)) = some r := H
 have A2 := Aside0.mk A20
 clear A20
 by_cases c3 : t425 = true
 case neg =>
  replace c3 := Bool.eq_false_iff.mpr c3
  subst c3
  have H1 : (some false) = some r := by rw [if_neg (show ¬ (false = true) by decide)] at H; exact H
  clear H
  have H := H1
  clear H1
  obtain rfl := Option.some.inj H
  go_enter Try.func6, Try.ntmps6
  go_wp2_with (first | ((with_reducible refine gate_callee (f := 9) rfl ?_); refine goesL_ (some 14) rfl rfl Try.func9 (by kernel_rfl) rfl #[] rfl (by (try simp only [List.map_toArray, List.map_cons, List.map_nil]); first | done | rfl | (simp only [List.length_drop, List.length_take]; rfl)) ?_; (with_reducible refine (clinkerlaw08_awake.calls k  false _ A2.out).mono ?_); rintro e w58 ⟨rfl, hb⟩; refine ⟨_, rfl, ?_⟩; replace HB := Aside0.mk (bst hb); (try clear hb); (try clear hb2); (try clear hk); (try clear hi)))
  go_ret
  exact ⟨by first | rfl | (simp [errW_none, errW_some] <;> rfl) | (simp [*, errW_none, errW_some] <;> rfl), by repeat (first | exact HB.out | apply lA | apply lN | apply lD)⟩
 subst c3
 have H1 : ((clinkerlaw06_Made.f k l0 4 5).bind fun bt426 => ((clinkerref07_Replay.f k bt426.1 bt426.2.1 bt426.2.2.1 bt426.2.2.2 64).bind fun bt433 => ((clinkerref06_All.f k bt426.1 bt426.2.1 bt426.2.2.1 bt426.2.2.2).bind fun t441 => (clinkerlaw08_LiveData.l0 k true t441 0 bt433.1 bt433.2.1)))) = some r := by rw [if_pos rfl] at H; exact H
 clear H
 have H := H1
 clear H1
 replace H := Option.bind_eq_some_iff.mp H
 obtain ⟨⟨t426, t429, t430, t431⟩, A40, H⟩ := H
 replace H : ((clinkerref07_Replay.f k t426 t429 t430 t431 64).bind fun bt433 => ((clinkerref06_All.f k t426 t429 t430 t431).bind fun t441 => (clinkerlaw08_LiveData.l0 k true t441 0 bt433.1 bt433.2.1))) = some r := H
 have A4 := Aside0.mk A40
 clear A40
 replace H := Option.bind_eq_some_iff.mp H
 obtain ⟨⟨t433, t436, t439⟩, A50, H⟩ := H
 replace H : ((clinkerref06_All.f k t426 t429 t430 t431).bind fun t441 => (clinkerlaw08_LiveData.l0 k true t441 0 t433 t436)) = some r := H
 have A5 := Aside0.mk A50
 clear A50
 replace H := Option.bind_eq_some_iff.mp H
 obtain ⟨t441, A60, H⟩ := H
 replace H : (clinkerlaw08_LiveData.l0 k true t441 0 t433 t436) = some r := H
 have A6 := Aside0.mk A60
 clear A60
 have H' := Aside0.mk H
 clear H
 go_enter Try.func6, Try.ntmps6
 go_wp2_with (first | ((with_reducible refine gate_callee (f := 9) rfl ?_); refine goesL_ (some 14) rfl rfl Try.func9 (by kernel_rfl) rfl #[] rfl (by (try simp only [List.map_toArray, List.map_cons, List.map_nil]); first | done | rfl | (simp only [List.length_drop, List.length_take]; rfl)) ?_; (with_reducible refine (clinkerlaw08_awake.calls k  true _ A2.out).mono ?_); rintro e w7 ⟨rfl, hb⟩; refine ⟨_, rfl, ?_⟩; replace HB := Aside0.mk (bst hb); (try clear hb); (try clear hb2); (try clear hk); (try clear hi)) | ((with_reducible refine gate_callee (f := 11) rfl ?_); refine goesL_ (some 18) rfl rfl Try.func11 (by kernel_rfl) rfl #[.slice A0 l0.length c0, .int .i64 4, .int .i64 5] rfl (by (try simp only [List.map_toArray, List.map_cons, List.map_nil]); first | done | rfl | (simp only [List.length_drop, List.length_take]; rfl)) ?_; (with_reducible refine (clinkerlaw06_Made.calls k _ _ l0 4 5 t426 t429 t430 t431 _ ?side1 ?side2 A4.out).mono ?_); (case side1 => repeat (first | exact (Kd.C_below HR0.out HB.out) | (with_reducible refine Kd.C_alloc ?_ _) | (with_reducible refine Kd.C_drewN ?_ _) | (with_reducible refine Kd.C_drew ?_))); (case side2 => exact HC0.out); rintro e w8 ⟨v427, rfl, ho0, hb⟩; refine ⟨_, rfl, ?_⟩; have HO428 := Aside0.mk (Kd.V_lower (Kd.V_mono (ok' := fun k_ => True) ho0 (fun k_ hk_ => trivial)) bsz); replace HB := Aside0.mk (bst hb); (try clear hb); (try clear hb2); (try clear hk); (try clear hi); (try clear ho0)) | ((with_reducible refine gate_dst (N := 4) rfl ?_); (try (refine gate_guard (by rfl) ?_; dsimp only)); refine box_event ?hg (N := 4) ?hd (cs := #[.slice none 0 0, .bool false, .bool false, .int .i64 0]) (t := 32) ?hr ?_; (case hd => rfl); (case hg => rfl); (case hr => first | (go_simp; done) | (go_simp; rfl)); intro gb432 hg w9 hbox hb; replace HO428 := Aside0.mk (Kd.V_below (Kd.V_elderB (mV HO428.out) gb432 (Nat.le_of_eq hg.symm)) hb); have BK432 := Aside0.mk (hbox); have GW432 := Aside0.mk ((bz hg : w.heap.size ≤ gb432)); replace HB := Aside0.mk (bst hb); have GE432 := GW432; clear hb hbox hg; obtain ⟨Ao10, co10, eo10⟩ := Kd.V_slice HO428.out; subst eo10; obtain ⟨hcz11_0, hcz11_1, hcz11_2, hcz11_3, hfz11_0, hfz11_1, hfz11_2, hfz11_3⟩ := kc4 BK432.out) | ((with_reducible refine gate_callee (f := 12) rfl ?_); refine goesL_ (some 21) rfl rfl Try.func12 (by kernel_rfl) rfl #[.agg #[.slice Ao10 t426.length co10, .bool t429, .bool t430, .int .i64 t431], .int .i64 64] rfl (by (try simp only [List.map_toArray, List.map_cons, List.map_nil]); first | done | rfl | (simp only [List.length_drop, List.length_take]; rfl)) ?_; (with_reducible refine (clinkerref07_Replay.calls k _ _ t426 t429 t430 t431 64 t433 t436 t439 _ ?side1 ?side2 A5.out).mono ?_); (case side1 => refine (Kd.V_reads' (e := 62) (base := w.heap.size) (ok := fun k_ => (True ∧ k_ ≠ gb432)) (n := t426.length) (c := co10) ?_).2.2; exact (by (with_reducible repeat (first | apply vA | apply vN | apply vD)); exact (Kd.V_mono (Kd.V_far (p := ⟨gb432, 3, none⟩) (Kd.V_far (p := ⟨gb432, 2, none⟩) (Kd.V_far (p := ⟨gb432, 1, none⟩) (Kd.V_far (p := ⟨gb432, 0, none⟩) (Kd.V_mono HO428.out (fun k_ hk => (⟨hk, hk.2⟩ : _ ∧ k_ ≠ gb432))) (fun _ hk => hk.2) _) (fun _ hk => hk.2) (.bool t429)) (fun _ hk => hk.2) (.bool t430)) (fun _ hk => hk.2) _) (fun _ h_ => h_.1)))); (case side2 => exact (Kd.V_reads' HO428.out).2.1); rintro e w12 ⟨v434, v437, rfl, ho0, ho1, hb⟩; refine ⟨_, rfl, ?_⟩; replace HO428 := Aside0.mk (Kd.V_mono (Kd.V_told (Kd.V_told (Kd.V_old (by (with_reducible repeat (first | apply vA | apply vN | apply vD)); exact (Kd.V_mono (Kd.V_far (p := ⟨gb432, 3, none⟩) (Kd.V_far (p := ⟨gb432, 2, none⟩) (Kd.V_far (p := ⟨gb432, 1, none⟩) (Kd.V_far (p := ⟨gb432, 0, none⟩) (Kd.V_mono HO428.out (fun k_ hk => (⟨hk, hk.2⟩ : _ ∧ k_ ≠ gb432))) (fun _ hk => hk.2) _) (fun _ hk => hk.2) (.bool t429)) (fun _ hk => hk.2) (.bool t430)) (fun _ hk => hk.2) _) (fun _ h_ => h_.1))) hb) (Kd.R_base ho0)) (Kd.R_base ho1)) (fun _ h_ => h_.1)); have HO435 := Aside0.mk (Kd.R_lower ho0 bsz); have HO438 := Aside0.mk (Kd.R_lower ho1 bsz); replace BK432 := Aside0.mk (blk_below (g := gb432) (o := .cells #[.slice Ao10 t426.length co10, .bool t429, .bool t430, .int .i64 t431] 32 (0, 0)) (by (with_reducible repeat (first | apply bN | apply bD | apply bA)); refine blk_put (cs := #[.slice Ao10 t426.length co10, .bool t429, .bool t430, .int .i64 0]) ?_ 3 _ rfl; (with_reducible repeat (first | apply bN | apply bD | apply bA)); refine blk_put (cs := #[.slice Ao10 t426.length co10, .bool t429, .bool false, .int .i64 0]) ?_ 2 _ rfl; (with_reducible repeat (first | apply bN | apply bD | apply bA)); refine blk_put (cs := #[.slice Ao10 t426.length co10, .bool false, .bool false, .int .i64 0]) ?_ 1 _ rfl; (with_reducible repeat (first | apply bN | apply bD | apply bA)); refine blk_put (cs := #[.slice none 0 0, .bool false, .bool false, .int .i64 0]) ?_ 0 _ rfl; (with_reducible repeat (first | apply bN | apply bD | apply bA)); exact BK432.out) hb); replace HB := Aside0.mk (bst hb); (try clear hb); (try clear hb2); (try clear hk); (try clear hi); (try clear ho0); (try clear ho1)) | ((with_reducible refine gate_dst (N := 5) rfl ?_); (try (refine gate_guard (by rfl) ?_; dsimp only)); refine box_event ?hg (N := 5) ?hd (cs := #[.slice none 0 0, .slice none 0 0]) (t := 24) ?hr ?_; (case hd => rfl); (case hg => rfl); (case hr => first | (go_simp; done) | (go_simp; rfl)); intro gb440 hg w13 hbox hb; replace HO428 := Aside0.mk (Kd.V_below (Kd.V_elderB (mV HO428.out) gb440 (Nat.le_of_eq hg.symm)) hb); replace HO435 := Aside0.mk (Kd.R_below (mR HO435.out) hb); replace HO438 := Aside0.mk (Kd.R_below (mR HO438.out) hb); have BK440 := Aside0.mk (hbox); have GW440 := Aside0.mk ((bz hg : w.heap.size ≤ gb440)); replace HB := Aside0.mk (bst hb); have GE440 := GW440; have NB432_440 := Aside0.mk ((bl BK432.out hg : gb432 ≠ gb440)); replace BK432 := Aside0.mk (bb BK432.out hb); have NB440_432 := Aside0.mk NB432_440.out.symm; clear hb hbox hg; obtain ⟨Ao14, co14, eo14⟩ := Kd.R_slice HO435.out; subst eo14; have hnb15 := NB440_432.out; have hnc15 := NB432_440.out; obtain ⟨hcz16_0, hcz16_1, hfz16_0, hfz16_1⟩ := kc2 BK440.out; obtain ⟨Ao17, co17, eo17⟩ := Kd.R_slice HO438.out; subst eo17; obtain ⟨hcz18_0, hcz18_1, hcz18_2, hcz18_3, hfz18_0, hfz18_1, hfz18_2, hfz18_3⟩ := kc4 BK432.out) | ((with_reducible refine gate_callee (f := 15) rfl ?_); refine goesL_ (some 25) rfl rfl Try.func15 (by kernel_rfl) rfl #[.agg #[.slice Ao10 t426.length co10, .bool t429, .bool t430, .int .i64 t431]] rfl (by (try simp only [List.map_toArray, List.map_cons, List.map_nil]); first | done | rfl | (simp only [List.length_drop, List.length_take]; rfl)) ?_; (with_reducible refine (clinkerref06_All.calls k _ _ t426 t429 t430 t431 t441 _ ?side1 ?side2 A6.out).mono ?_); (case side1 => refine (Kd.V_reads' (e := 62) (base := w.heap.size) (ok := fun k_ => ((((True ∧ k_ ≠ gb432) ∧ some k_ ≠ (.slice Ao14 t433.length co14 : Value).ownBlock) ∧ some k_ ≠ (.slice Ao17 t436.length co17 : Value).ownBlock) ∧ k_ ≠ gb440)) (n := t426.length) (c := co10) ?_).2.2; exact (by (with_reducible repeat (first | apply vA | apply vN | apply vD)); exact (Kd.V_mono (Kd.V_far (p := ⟨gb440, 1, none⟩) (Kd.V_far (p := ⟨gb440, 0, none⟩) (Kd.V_mono HO428.out (fun k_ hk => (⟨hk, hk.2⟩ : _ ∧ k_ ≠ gb440))) (fun _ hk => hk.2) _) (fun _ hk => hk.2) _) (fun _ h_ => h_.1)))); (case side2 => exact (Kd.V_reads' HO428.out).2.1); rintro e w19 ⟨v442, rfl, ho0, hb⟩; refine ⟨_, rfl, ?_⟩; replace HO428 := Aside0.mk (Kd.V_elder' (by (with_reducible repeat (first | apply vA | apply vN | apply vD)); exact (Kd.V_mono (Kd.V_far (p := ⟨gb440, 1, none⟩) (Kd.V_far (p := ⟨gb440, 0, none⟩) (Kd.V_mono HO428.out (fun k_ hk => (⟨hk, hk.2⟩ : _ ∧ k_ ≠ gb440))) (fun _ hk => hk.2) _) (fun _ hk => hk.2) _) (fun _ h_ => h_.1))) (Kd.N_base ho0) hb); have HO443 := Aside0.mk (Kd.N_lower (Kd.N_mono (ok' := fun k_ => some k_ ≠ (.slice Ao14 t433.length co14 : Value).ownBlock ∧ some k_ ≠ (.slice Ao17 t436.length co17 : Value).ownBlock ∧ k_ ≠ gb432 ∧ k_ ≠ gb440) ho0 (fun k_ hk_ => ⟨(Kd.fresh' (Kd.R_lt (by (with_reducible repeat (first | apply rA | apply rN | apply rD)); exact (Kd.R_mono (Kd.R_far (p := ⟨gb440, 1, none⟩) (Kd.R_far (p := ⟨gb440, 0, none⟩) (Kd.R_types HO435.out BK440.out (by decide)) (fun _ hk => hk.2) _) (fun _ hk => hk.2) _) (fun _ h_ => h_.1)))) k_ hk_), (Kd.fresh' (Kd.R_lt (by (with_reducible repeat (first | apply rA | apply rN | apply rD)); exact (Kd.R_mono (Kd.R_far (p := ⟨gb440, 1, none⟩) (Kd.R_far (p := ⟨gb440, 0, none⟩) (Kd.R_types HO438.out BK440.out (by decide)) (fun _ hk => hk.2) _) (fun _ hk => hk.2) _) (fun _ h_ => h_.1)))) k_ hk_), (Kd.freshB (g := gb432) (o := .cells #[.slice Ao10 t426.length co10, .bool t429, .bool t430, .int .i64 t431] 32 (0, 0)) (by (with_reducible repeat (first | apply bN | apply bD | apply bA)); refine blk_far ?_ NB432_440.out _; (with_reducible repeat (first | apply bN | apply bD | apply bA)); refine blk_far ?_ NB432_440.out _; (with_reducible repeat (first | apply bN | apply bD | apply bA)); exact BK432.out) k_ hk_), (Kd.freshB (g := gb440) (o := .cells #[.slice Ao14 t433.length co14, .slice Ao17 t436.length co17] 24 (0, 0)) (by (with_reducible repeat (first | apply bN | apply bD | apply bA)); refine blk_put (cs := #[.slice Ao14 t433.length co14, .slice none 0 0]) ?_ 1 _ rfl; (with_reducible repeat (first | apply bN | apply bD | apply bA)); refine blk_put (cs := #[.slice none 0 0, .slice none 0 0]) ?_ 0 _ rfl; (with_reducible repeat (first | apply bN | apply bD | apply bA)); exact BK440.out) k_ hk_)⟩)) bsz); replace HO435 := Aside0.mk (Kd.R_below (by (with_reducible repeat (first | apply rA | apply rN | apply rD)); exact (Kd.R_mono (Kd.R_far (p := ⟨gb440, 1, none⟩) (Kd.R_far (p := ⟨gb440, 0, none⟩) (Kd.R_types HO435.out BK440.out (by decide)) (fun _ hk => hk.2) _) (fun _ hk => hk.2) _) (fun _ h_ => h_.1))) hb); replace HO438 := Aside0.mk (Kd.R_below (by (with_reducible repeat (first | apply rA | apply rN | apply rD)); exact (Kd.R_mono (Kd.R_far (p := ⟨gb440, 1, none⟩) (Kd.R_far (p := ⟨gb440, 0, none⟩) (Kd.R_types HO438.out BK440.out (by decide)) (fun _ hk => hk.2) _) (fun _ hk => hk.2) _) (fun _ h_ => h_.1))) hb); replace BK432 := Aside0.mk (blk_below (g := gb432) (o := .cells #[.slice Ao10 t426.length co10, .bool t429, .bool t430, .int .i64 t431] 32 (0, 0)) (by (with_reducible repeat (first | apply bN | apply bD | apply bA)); refine blk_far ?_ NB432_440.out _; (with_reducible repeat (first | apply bN | apply bD | apply bA)); refine blk_far ?_ NB432_440.out _; (with_reducible repeat (first | apply bN | apply bD | apply bA)); exact BK432.out) hb); replace BK440 := Aside0.mk (blk_below (g := gb440) (o := .cells #[.slice Ao14 t433.length co14, .slice Ao17 t436.length co17] 24 (0, 0)) (by (with_reducible repeat (first | apply bN | apply bD | apply bA)); refine blk_put (cs := #[.slice Ao14 t433.length co14, .slice none 0 0]) ?_ 1 _ rfl; (with_reducible repeat (first | apply bN | apply bD | apply bA)); refine blk_put (cs := #[.slice none 0 0, .slice none 0 0]) ?_ 0 _ rfl; (with_reducible repeat (first | apply bN | apply bD | apply bA)); exact BK440.out) hb); replace HB := Aside0.mk (bst hb); (try clear hb); (try clear hb2); (try clear hk); (try clear hi); (try clear ho0)))
 go_loopg [8] k (fun kq v8 w' => ∃ (x8_1 : Int), v8 = .int .i64 x8_1 ∧ Aside0 (clinkerlaw08_LiveData.l0 kq true t441 x8_1 t433 t436 = some r) ∧ Aside0 (kq ≤ k) ∧ Aside0 (Kd.N k44 44 w' w.heap.size (fun k_ => some k_ ≠ ((.slice Ao14 t433.length co14) : Value).ownBlock ∧ some k_ ≠ ((.slice Ao17 t436.length co17) : Value).ownBlock ∧ k_ ≠ gb432 ∧ k_ ≠ gb440) v442 t441) ∧ Aside0 (Kd.V k62 62 w' w.heap.size (fun k_ => some k_ ≠ (v442 : Value).ownBlock ∧ some k_ ≠ ((.slice Ao14 t433.length co14) : Value).ownBlock ∧ some k_ ≠ ((.slice Ao17 t436.length co17) : Value).ownBlock ∧ k_ ≠ gb432 ∧ k_ ≠ gb440) (.slice Ao10 t426.length co10) t426) ∧ Aside0 (Kd.R (Kd.int .i64) 3 w' w.heap.size (fun k_ => some k_ ≠ ((.slice Ao17 t436.length co17) : Value).ownBlock) (.slice Ao14 t433.length co14) t433) ∧ Aside0 (Kd.R (Kd.int .i64) 3 w' w.heap.size (fun k_ => some k_ ≠ ((.slice Ao14 t433.length co14) : Value).ownBlock) (.slice Ao17 t436.length co17) t436) ∧ Aside0 (w'.heap[gb432]? = some (.cells #[(.slice Ao10 t426.length co10), .bool t429, .bool t430, .int .i64 t431] 32 (0, 0))) ∧ Aside0 (w'.heap[gb440]? = some (.cells #[(.slice Ao14 t433.length co14), (.slice Ao17 t436.length co17)] 24 (0, 0))) ∧ Aside0 (Below w.heap.size w w'))
 case atStart => exact ⟨(0), (by first | rfl | (simp; done) | (simp [*]; done)), H', ⟨Nat.le_refl _⟩, ⟨mN HO443.out⟩, ⟨by (with_reducible repeat (first | apply vA | apply vN | apply vD)); exact Kd.V_mono HO428.out (fun _ hk => ⟨hk.2, ⟨hk.1.1.1.2, ⟨hk.1.1.2, ⟨hk.1.1.1.1.2, hk.1.2⟩⟩⟩⟩)⟩, ⟨mR HO435.out⟩, ⟨mR HO438.out⟩, ⟨mB BK432.out⟩, ⟨mB BK440.out⟩, ⟨mH⟩⟩
 case round =>
  clear H'
  try clear c1
  try clear p2
  try clear c3
  try clear c6
  try clear c9
  try clear c11
  try clear c12
  try clear c15
  try clear hcz11_0
  try clear hcz11_1
  try clear hcz11_2
  try clear hcz11_3
  try clear hcz16_0
  try clear hcz16_1
  try clear hcz18_0
  try clear hcz18_1
  try clear hcz18_2
  try clear hcz18_3
  try clear hfz11_0
  try clear hfz11_1
  try clear hfz11_2
  try clear hfz11_3
  try clear hfz16_0
  try clear hfz16_1
  try clear hfz18_0
  try clear hfz18_1
  try clear hfz18_2
  try clear hfz18_3
  obtain ⟨x8_1, rfl, HA, HK1, HO_7, HO_433000, HO_441000, HO_441001, BK432, BK440, HB⟩ := hrel
  cases gk with
  | zero => exact absurd HA.out (by simp [clinkerlaw08_LiveData.l0])
  | succ k1 =>
   have H := HA.out
   clear HA
   simp only [clinkerlaw08_LiveData.l0] at H
   by_cases c20 : x8_1 < (t441.length : Int)
   case neg =>
    rw [if_neg c20] at H
    have c20b0 : decide (x8_1 < (t441.length : Int)) = false := decide_eq_false c20
    clear c20
    obtain rfl := Option.some.inj H
    obtain ⟨Ao57, co57, eo57⟩ := Kd.N_slice HO_7.out
    subst eo57
    go_wp2
    go_ret
    exact ⟨by first | rfl | (simp [errW_none, errW_some] <;> rfl) | (simp [*, errW_none, errW_some] <;> rfl), by repeat (first | (with_reducible first | exact HB.out | apply lA | apply lN | apply lD | refine lS ?_ GE432.out | refine lS ?_ GE440.out) | exact HB.out)⟩
   rw [if_pos c20] at H
   have c20b0 : decide (x8_1 < (t441.length : Int)) = true := decide_eq_true c20
   clear c20
   have H' := Aside0.mk H
   clear H
   obtain ⟨Ao21, co21, eo21⟩ := Kd.N_slice HO_7.out
   subst eo21
   go_wp2
   go_loopg [9, 10] k1 (fun kq v9 v10 w' => ∃ (x9_2 : Bool) (x10_2 : Int), v9 = .bool x9_2 ∧ v10 = .int .i64 x10_2 ∧ Aside0 (clinkerlaw08_LiveData.l1 kq true t441 x8_1 x9_2 x10_2 t433 t436 = some r) ∧ Aside0 (kq ≤ k1) ∧ Aside0 (Kd.N k44 44 w' w.heap.size (fun k_ => some k_ ≠ ((.slice Ao14 t433.length co14) : Value).ownBlock ∧ some k_ ≠ ((.slice Ao17 t436.length co17) : Value).ownBlock ∧ k_ ≠ gb432 ∧ k_ ≠ gb440) (.slice Ao21 t441.length co21) t441) ∧ Aside0 (Kd.V k62 62 w' w.heap.size (fun k_ => some k_ ≠ ((.slice Ao21 t441.length co21) : Value).ownBlock ∧ some k_ ≠ ((.slice Ao14 t433.length co14) : Value).ownBlock ∧ some k_ ≠ ((.slice Ao17 t436.length co17) : Value).ownBlock ∧ k_ ≠ gb432 ∧ k_ ≠ gb440) (.slice Ao10 t426.length co10) t426) ∧ Aside0 (Kd.R (Kd.int .i64) 3 w' w.heap.size (fun k_ => some k_ ≠ ((.slice Ao17 t436.length co17) : Value).ownBlock) (.slice Ao14 t433.length co14) t433) ∧ Aside0 (Kd.R (Kd.int .i64) 3 w' w.heap.size (fun k_ => some k_ ≠ ((.slice Ao14 t433.length co14) : Value).ownBlock) (.slice Ao17 t436.length co17) t436) ∧ Aside0 (w'.heap[gb432]? = some (.cells #[(.slice Ao10 t426.length co10), .bool t429, .bool t430, .int .i64 t431] 32 (0, 0))) ∧ Aside0 (w'.heap[gb440]? = some (.cells #[(.slice Ao14 t433.length co14), (.slice Ao17 t436.length co17)] 24 (0, 0))) ∧ Aside0 (Below w.heap.size w w'))
   case atStart => exact ⟨(false), (0), (by first | rfl | (simp; done) | (simp [*]; done)), (by first | rfl | (simp; done) | (simp [*]; done)), H', ⟨Nat.le_refl _⟩, ⟨mN HO_7.out⟩, ⟨mV HO_433000.out⟩, ⟨mR HO_441000.out⟩, ⟨mR HO_441001.out⟩, ⟨mB BK432.out⟩, ⟨mB BK440.out⟩, ⟨mH⟩⟩
   case round =>
    clear H'
    try clear c1
    try clear c2
    try clear p2
    try clear c3
    try clear c6
    try clear c9
    try clear c11
    try clear c12
    try clear c15
    try clear c20
    try clear c20b0
    try clear hcz11_0
    try clear hcz11_1
    try clear hcz11_2
    try clear hcz11_3
    try clear hcz16_0
    try clear hcz16_1
    try clear hcz18_0
    try clear hcz18_1
    try clear hcz18_2
    try clear hcz18_3
    try clear hfz11_0
    try clear hfz11_1
    try clear hfz11_2
    try clear hfz11_3
    try clear hfz16_0
    try clear hfz16_1
    try clear hfz18_0
    try clear hfz18_1
    try clear hfz18_2
    try clear hfz18_3
    try clear p2
    obtain ⟨x9_2, x10_2, rfl, rfl, HA, HK2, HO_7, HO_433000, HO_441000, HO_441001, BK432, BK440, HB⟩ := hrel
    cases gk with
    | zero => exact absurd HA.out (by simp [clinkerlaw08_LiveData.l1])
    | succ k2 =>
     have H := HA.out
     clear HA
     simp only [clinkerlaw08_LiveData.l1] at H
     by_cases c22 : 0 ≤ x8_1
     case neg =>
      rw [if_neg c22] at H
      exact absurd H (by simp)
     rw [if_pos c22] at H
     have c22b0 : decide (0 ≤ x8_1) = true := decide_eq_true c22
     clear c22
     by_cases c23 : x8_1 < (t441.length : Int)
     case neg =>
      rw [if_neg c23] at H
      exact absurd H (by simp)
     rw [if_pos c23] at H
     have c23b0 : decide (x8_1 < (t441.length : Int)) = true := decide_eq_true c23
     clear c23
     by_cases c24 : x10_2 < (((rd_T44 t441 x8_1).f1.f2).length : Int)
     case pos =>
      rw [if_pos c24] at H
      have c24b0 : decide (x10_2 < (((rd_T44 t441 x8_1).f1.f2).length : Int)) = true := decide_eq_true c24
      clear c24
      have H' := Aside0.mk H
      clear H
      have p444 : 0 ≤ (x8_1 : Int) := of_decide_eq_true (by first | (with_reducible assumption) | assumption)
      have q444 : x8_1 < (t441.length : Int) := of_decide_eq_true (by first | (with_reducible assumption) | assumption)
      obtain ⟨ad444, A444_3, c444_3, A444_4, c444_4, e444, hx444_0, hx444_1, hx444_2, hx444_3, hx444_4, hl444_3, hi444_3, hl444_4, hi444_4⟩ := at_T44 (Kd.N_reads' HO_7.out).2.2 x8_1 p444 q444
      cases e444
      obtain ⟨ce444, hce444, hMe444, hcc444⟩ := Kd.N_get HO_7.out z44 x8_1 p444 (by first | exact q444 | exact of_decide_eq_true (by first | (with_reducible assumption) | assumption) | (have e_ := (Kd.N_reads' HO_7.out).1; omega))
      obtain ⟨ua444_3, uc444_3, ua444_4, uc444_4, rfl, ul444_3, ge444_3, ul444_4, ge444_4⟩ := k44_openF hMe444
      have hv444_3 := hcc444 3 _ rfl
      rw [add_field _ _ 3 (by omega)] at hv444_3
      replace hv444_3 := Option.some.inj (hv444_3.symm.trans hx444_3)
      injection hv444_3 with hva_ hvn_ hvc_
      rw [hva_] at ge444_3
      rw [hvc_] at ul444_3
      have HL444_3 := Aside0.mk (show Kd.V (Kd.int .i64) 3 _ w.heap.size _ _ ((rd_T44 t441 x8_1).f1.f2) from Kd.V_mk ul444_3 ge444_3)
      clear hva_ hvn_ hvc_ ge444_3 ul444_3
      have hv444_4 := hcc444 4 _ rfl
      rw [add_field _ _ 4 (by omega)] at hv444_4
      replace hv444_4 := Option.some.inj (hv444_4.symm.trans hx444_4)
      injection hv444_4 with hva_ hvn_ hvc_
      rw [hva_] at ge444_4
      rw [hvc_] at ul444_4
      have HL444_4 := Aside0.mk (show Kd.V (Kd.int .i64) 3 _ w.heap.size _ _ ((rd_T44 t441 x8_1).f1.f3) from Kd.V_mk ul444_4 ge444_4)
      clear hva_ hvn_ hvc_ ge444_4 ul444_4
      clear hcc444 hce444
      have HR444_3 := Aside0.mk hi444_3
      have HC444_3 := Aside0.mk hl444_3
      clear hi444_3 hl444_3
      have HR444_4 := Aside0.mk hi444_4
      have HC444_4 := Aside0.mk hl444_4
      clear hi444_4 hl444_4
      replace p444 := eq_true p444
      replace q444 := eq_true q444
      go_wp2
      go_loopg [11, 12] k2 (fun kq v11 v12 w' => ∃ (x11_3 : Bool) (x12_3 : Int), v11 = .bool x11_3 ∧ v12 = .int .i64 x12_3 ∧ Aside0 (clinkerlaw08_LiveData.l2 kq true t441 x8_1 x9_2 x10_2 x11_3 x12_3 t433 t436 = some r) ∧ Aside0 (kq ≤ k2) ∧ Aside0 (Kd.N k44 44 w' w.heap.size (fun k_ => some k_ ≠ ((.slice Ao14 t433.length co14) : Value).ownBlock ∧ some k_ ≠ ((.slice Ao17 t436.length co17) : Value).ownBlock ∧ k_ ≠ gb432 ∧ k_ ≠ gb440) (.slice (some ad444) t441.length co21) t441) ∧ Aside0 (Kd.V k62 62 w' w.heap.size (fun k_ => some k_ ≠ ((.slice (some ad444) t441.length co21) : Value).ownBlock ∧ some k_ ≠ ((.slice Ao14 t433.length co14) : Value).ownBlock ∧ some k_ ≠ ((.slice Ao17 t436.length co17) : Value).ownBlock ∧ k_ ≠ gb432 ∧ k_ ≠ gb440) (.slice Ao10 t426.length co10) t426) ∧ Aside0 (Kd.R (Kd.int .i64) 3 w' w.heap.size (fun k_ => some k_ ≠ ((.slice Ao17 t436.length co17) : Value).ownBlock) (.slice Ao14 t433.length co14) t433) ∧ Aside0 (Kd.R (Kd.int .i64) 3 w' w.heap.size (fun k_ => some k_ ≠ ((.slice Ao14 t433.length co14) : Value).ownBlock) (.slice Ao17 t436.length co17) t436) ∧ Aside0 (w'.heap[gb432]? = some (.cells #[(.slice Ao10 t426.length co10), .bool t429, .bool t430, .int .i64 t431] 32 (0, 0))) ∧ Aside0 (w'.heap[gb440]? = some (.cells #[(.slice Ao14 t433.length co14), (.slice Ao17 t436.length co17)] 24 (0, 0))) ∧ Aside0 (Kd.C (Kd.int .i64) w' A444_3 ((rd_T44 t441 x8_1).f1.f2).length ((rd_T44 t441 x8_1).f1.f2)) ∧ Aside0 (Kd.C (Kd.int .i64) w' A444_4 ((rd_T44 t441 x8_1).f1.f3).length ((rd_T44 t441 x8_1).f1.f3)) ∧ Aside0 (Below w.heap.size w w'))
      case atStart => exact ⟨(false), (wrap64 (x8_1 + 1)), (by first | rfl | (simp; done) | (simp [*]; done)), (by first | rfl | (simp; done) | (simp [*]; done)), H', ⟨Nat.le_refl _⟩, ⟨mN HO_7.out⟩, ⟨mV HO_433000.out⟩, ⟨mR HO_441000.out⟩, ⟨mR HO_441001.out⟩, ⟨mB BK432.out⟩, ⟨mB BK440.out⟩, ⟨by repeat (first | (with_reducible exact HR444_3.out) | (with_reducible refine Kd.C_alloc ?_ _) | (with_reducible refine Kd.C_drewN ?_ _) | (with_reducible refine Kd.C_drew ?_) | exact HR444_3.out)⟩, ⟨by repeat (first | (with_reducible exact HR444_4.out) | (with_reducible refine Kd.C_alloc ?_ _) | (with_reducible refine Kd.C_drewN ?_ _) | (with_reducible refine Kd.C_drew ?_) | exact HR444_4.out)⟩, ⟨mH⟩⟩
      case round =>
       clear H'
       try clear c1
       try clear c2
       try clear p2
       try clear c3
       try clear c4
       try clear p4
       try clear q4k23
       try clear hx4
       try clear c6
       try clear p6
       try clear c9
       try clear c11
       try clear c12
       try clear c15
       try clear c20
       try clear c20b0
       try clear c22
       try clear c22b0
       try clear c23
       try clear c23b0
       try clear c24
       try clear c24b0
       try clear hcz11_0
       try clear hcz11_1
       try clear hcz11_2
       try clear hcz11_3
       try clear hcz16_0
       try clear hcz16_1
       try clear hcz18_0
       try clear hcz18_1
       try clear hcz18_2
       try clear hcz18_3
       try clear hfz11_0
       try clear hfz11_1
       try clear hfz11_2
       try clear hfz11_3
       try clear hfz16_0
       try clear hfz16_1
       try clear hfz18_0
       try clear hfz18_1
       try clear hfz18_2
       try clear hfz18_3
       try clear hx444_0
       try clear hx444_1
       try clear hx444_2
       try clear hx444_3
       try clear hx444_4
       try clear p2
       try clear p444
       try clear q444
       obtain ⟨x11_3, x12_3, rfl, rfl, HA, HK3, HO_7, HO_433000, HO_441000, HO_441001, BK432, BK440, HR444_3, HR444_4, HB⟩ := hrel
       cases gk with
       | zero => exact absurd HA.out (by simp [clinkerlaw08_LiveData.l2])
       | succ k3 =>
        have H := HA.out
        clear HA
        simp only [clinkerlaw08_LiveData.l2] at H
        by_cases c25 : x12_3 < (t441.length : Int)
        case neg =>
         rw [if_neg c25] at H
         have c25b0 : decide (x12_3 < (t441.length : Int)) = false := decide_eq_false c25
         clear c25
         by_cases c37 : x9_2 = true
         case pos =>
          subst c37
          have H1 : (clinkerlaw08_LiveData.l1 k3 true t441 x8_1 true (wrap64 (x10_2 + 1)) t433 t436) = some r := by rw [if_pos rfl] at H; exact H
          clear H
          have H := H1
          clear H1
          have H' := Aside0.mk H
          clear H
          go_wp2
          go_roundg k3
          case measure => have := HK1.out; have := HK2.out; have := HK3.out; omega
          case rel => exact ⟨(true), (wrap64 (x10_2 + 1)), (by first | rfl | (simp; done) | (simp [*]; done)), (by first | rfl | (simp; done) | (simp [*]; done)), H', ⟨by have := HK1.out; have := HK2.out; have := HK3.out; omega⟩, ⟨mN HO_7.out⟩, ⟨mV HO_433000.out⟩, ⟨mR HO_441000.out⟩, ⟨mR HO_441001.out⟩, ⟨mB BK432.out⟩, ⟨mB BK440.out⟩, ⟨mH⟩⟩
         replace c37 := Bool.eq_false_iff.mpr c37
         subst c37
         have H1 : (clinkerlaw08_LiveData.l1 k3 true t441 x8_1 (!x11_3) (wrap64 (x10_2 + 1)) t433 t436) = some r := by rw [if_neg (show ¬ (false = true) by decide)] at H; exact H
         clear H
         have H := H1
         clear H1
         have H' := Aside0.mk H
         clear H
         go_wp2
         go_roundg k3
         case measure => have := HK1.out; have := HK2.out; have := HK3.out; omega
         case rel => exact ⟨(!x11_3), (wrap64 (x10_2 + 1)), (by first | rfl | (simp; done) | (simp [*]; done)), (by first | rfl | (simp; done) | (simp [*]; done)), H', ⟨by have := HK1.out; have := HK2.out; have := HK3.out; omega⟩, ⟨mN HO_7.out⟩, ⟨mV HO_433000.out⟩, ⟨mR HO_441000.out⟩, ⟨mR HO_441001.out⟩, ⟨mB BK432.out⟩, ⟨mB BK440.out⟩, ⟨mH⟩⟩
        rw [if_pos c25] at H
        have c25b0 : decide (x12_3 < (t441.length : Int)) = true := decide_eq_true c25
        clear c25
        have H' := Aside0.mk H
        clear H
        go_wp2
        go_loopg [11, 13] k3 (fun kq v11 v13 w' => ∃ (x11_4 : Bool) (x13_4 : Int), v11 = .bool x11_4 ∧ v13 = .int .i64 x13_4 ∧ Aside0 (clinkerlaw08_LiveData.l3 kq true t441 x8_1 x9_2 x10_2 x11_4 x12_3 x13_4 t433 t436 = some r) ∧ Aside0 (kq ≤ k3) ∧ Aside0 (Kd.N k44 44 w' w.heap.size (fun k_ => some k_ ≠ ((.slice Ao14 t433.length co14) : Value).ownBlock ∧ some k_ ≠ ((.slice Ao17 t436.length co17) : Value).ownBlock ∧ k_ ≠ gb432 ∧ k_ ≠ gb440) (.slice (some ad444) t441.length co21) t441) ∧ Aside0 (Kd.V k62 62 w' w.heap.size (fun k_ => some k_ ≠ ((.slice (some ad444) t441.length co21) : Value).ownBlock ∧ some k_ ≠ ((.slice Ao14 t433.length co14) : Value).ownBlock ∧ some k_ ≠ ((.slice Ao17 t436.length co17) : Value).ownBlock ∧ k_ ≠ gb432 ∧ k_ ≠ gb440) (.slice Ao10 t426.length co10) t426) ∧ Aside0 (Kd.R (Kd.int .i64) 3 w' w.heap.size (fun k_ => some k_ ≠ ((.slice Ao17 t436.length co17) : Value).ownBlock) (.slice Ao14 t433.length co14) t433) ∧ Aside0 (Kd.R (Kd.int .i64) 3 w' w.heap.size (fun k_ => some k_ ≠ ((.slice Ao14 t433.length co14) : Value).ownBlock) (.slice Ao17 t436.length co17) t436) ∧ Aside0 (w'.heap[gb432]? = some (.cells #[(.slice Ao10 t426.length co10), .bool t429, .bool t430, .int .i64 t431] 32 (0, 0))) ∧ Aside0 (w'.heap[gb440]? = some (.cells #[(.slice Ao14 t433.length co14), (.slice Ao17 t436.length co17)] 24 (0, 0))) ∧ Aside0 (Kd.C (Kd.int .i64) w' A444_3 ((rd_T44 t441 x8_1).f1.f2).length ((rd_T44 t441 x8_1).f1.f2)) ∧ Aside0 (Kd.C (Kd.int .i64) w' A444_4 ((rd_T44 t441 x8_1).f1.f3).length ((rd_T44 t441 x8_1).f1.f3)) ∧ Aside0 (Below w.heap.size w w'))
        case atStart => exact ⟨(x11_3), (0), (by first | rfl | (simp; done) | (simp [*]; done)), (by first | rfl | (simp; done) | (simp [*]; done)), H', ⟨Nat.le_refl _⟩, ⟨mN HO_7.out⟩, ⟨mV HO_433000.out⟩, ⟨mR HO_441000.out⟩, ⟨mR HO_441001.out⟩, ⟨mB BK432.out⟩, ⟨mB BK440.out⟩, ⟨by repeat (first | (with_reducible exact HR444_3.out) | (with_reducible refine Kd.C_alloc ?_ _) | (with_reducible refine Kd.C_drewN ?_ _) | (with_reducible refine Kd.C_drew ?_) | exact HR444_3.out)⟩, ⟨by repeat (first | (with_reducible exact HR444_4.out) | (with_reducible refine Kd.C_alloc ?_ _) | (with_reducible refine Kd.C_drewN ?_ _) | (with_reducible refine Kd.C_drew ?_) | exact HR444_4.out)⟩, ⟨mH⟩⟩
        case round =>
         clear H'
         try clear c1
         try clear c2
         try clear p2
         try clear c3
         try clear c4
         try clear p4
         try clear q4k23
         try clear hx4
         try clear c6
         try clear p6
         try clear c9
         try clear c11
         try clear c12
         try clear c15
         try clear c20
         try clear c20b0
         try clear c22
         try clear c22b0
         try clear c23
         try clear c23b0
         try clear c24
         try clear c24b0
         try clear c25
         try clear c25b0
         try clear hcz11_0
         try clear hcz11_1
         try clear hcz11_2
         try clear hcz11_3
         try clear hcz16_0
         try clear hcz16_1
         try clear hcz18_0
         try clear hcz18_1
         try clear hcz18_2
         try clear hcz18_3
         try clear hfz11_0
         try clear hfz11_1
         try clear hfz11_2
         try clear hfz11_3
         try clear hfz16_0
         try clear hfz16_1
         try clear hfz18_0
         try clear hfz18_1
         try clear hfz18_2
         try clear hfz18_3
         try clear hx444_0
         try clear hx444_1
         try clear hx444_2
         try clear hx444_3
         try clear hx444_4
         try clear p2
         try clear p4
         try clear p444
         try clear p6
         try clear q4k23
         try clear q444
         obtain ⟨x11_4, x13_4, rfl, rfl, HA, HK4, HO_7, HO_433000, HO_441000, HO_441001, BK432, BK440, HR444_3, HR444_4, HB⟩ := hrel
         cases gk with
         | zero => exact absurd HA.out (by simp [clinkerlaw08_LiveData.l3])
         | succ k4 =>
          have H := HA.out
          clear HA
          simp only [clinkerlaw08_LiveData.l3] at H
          by_cases c26 : 0 ≤ x12_3
          case neg =>
           rw [if_neg c26] at H
           exact absurd H (by simp)
          rw [if_pos c26] at H
          have c26b0 : decide (0 ≤ x12_3) = true := decide_eq_true c26
          clear c26
          by_cases c27 : x12_3 < (t441.length : Int)
          case neg =>
           rw [if_neg c27] at H
           exact absurd H (by simp)
          rw [if_pos c27] at H
          have c27b0 : decide (x12_3 < (t441.length : Int)) = true := decide_eq_true c27
          clear c27
          by_cases c28 : x13_4 < (((rd_T44 t441 x12_3).f1.f2).length : Int)
          case neg =>
           rw [if_neg c28] at H
           have c28b0 : decide (x13_4 < (((rd_T44 t441 x12_3).f1.f2).length : Int)) = false := decide_eq_false c28
           clear c28
           have H' := Aside0.mk H
           clear H
           have p445 : 0 ≤ (x12_3 : Int) := of_decide_eq_true (by first | (with_reducible assumption) | assumption)
           have q445 : x12_3 < (t441.length : Int) := of_decide_eq_true (by first | (with_reducible assumption) | assumption)
           obtain ⟨ad445, A445_3, c445_3, A445_4, c445_4, e445, hx445_0, hx445_1, hx445_2, hx445_3, hx445_4, hl445_3, hi445_3, hl445_4, hi445_4⟩ := at_T44 (Kd.N_reads' HO_7.out).2.2 x12_3 p445 q445
           obtain rfl : ad444 = ad445 := (by injection e445)
           obtain ⟨ce445, hce445, hMe445, hcc445⟩ := Kd.N_get HO_7.out z44 x12_3 p445 (by first | exact q445 | exact of_decide_eq_true (by first | (with_reducible assumption) | assumption) | (have e_ := (Kd.N_reads' HO_7.out).1; omega))
           obtain ⟨ua445_3, uc445_3, ua445_4, uc445_4, rfl, ul445_3, ge445_3, ul445_4, ge445_4⟩ := k44_openF hMe445
           have hv445_3 := hcc445 3 _ rfl
           rw [add_field _ _ 3 (by omega)] at hv445_3
           replace hv445_3 := Option.some.inj (hv445_3.symm.trans hx445_3)
           injection hv445_3 with hva_ hvn_ hvc_
           rw [hva_] at ge445_3
           rw [hvc_] at ul445_3
           have HL445_3 := Aside0.mk (show Kd.V (Kd.int .i64) 3 _ w.heap.size _ _ ((rd_T44 t441 x12_3).f1.f2) from Kd.V_mk ul445_3 ge445_3)
           clear hva_ hvn_ hvc_ ge445_3 ul445_3
           have hv445_4 := hcc445 4 _ rfl
           rw [add_field _ _ 4 (by omega)] at hv445_4
           replace hv445_4 := Option.some.inj (hv445_4.symm.trans hx445_4)
           injection hv445_4 with hva_ hvn_ hvc_
           rw [hva_] at ge445_4
           rw [hvc_] at ul445_4
           have HL445_4 := Aside0.mk (show Kd.V (Kd.int .i64) 3 _ w.heap.size _ _ ((rd_T44 t441 x12_3).f1.f3) from Kd.V_mk ul445_4 ge445_4)
           clear hva_ hvn_ hvc_ ge445_4 ul445_4
           clear hcc445 hce445
           have HR445_3 := Aside0.mk hi445_3
           have HC445_3 := Aside0.mk hl445_3
           clear hi445_3 hl445_3
           have HR445_4 := Aside0.mk hi445_4
           have HC445_4 := Aside0.mk hl445_4
           clear hi445_4 hl445_4
           replace p445 := eq_true p445
           replace q445 := eq_true q445
           go_wp2
           go_roundg k4
           case measure => have := HK1.out; have := HK2.out; have := HK3.out; have := HK4.out; omega
           case rel => exact ⟨(x11_4), (wrap64 (x12_3 + 1)), (by first | rfl | (simp; done) | (simp [*]; done)), (by first | rfl | (simp; done) | (simp [*]; done)), H', ⟨by have := HK1.out; have := HK2.out; have := HK3.out; have := HK4.out; omega⟩, ⟨mN HO_7.out⟩, ⟨mV HO_433000.out⟩, ⟨mR HO_441000.out⟩, ⟨mR HO_441001.out⟩, ⟨mB BK432.out⟩, ⟨mB BK440.out⟩, ⟨by repeat (first | (with_reducible exact HR444_3.out) | (with_reducible refine Kd.C_alloc ?_ _) | (with_reducible refine Kd.C_drewN ?_ _) | (with_reducible refine Kd.C_drew ?_) | exact HR444_3.out)⟩, ⟨by repeat (first | (with_reducible exact HR444_4.out) | (with_reducible refine Kd.C_alloc ?_ _) | (with_reducible refine Kd.C_drewN ?_ _) | (with_reducible refine Kd.C_drew ?_) | exact HR444_4.out)⟩, ⟨mH⟩⟩
          rw [if_pos c28] at H
          have c28b0 : decide (x13_4 < (((rd_T44 t441 x12_3).f1.f2).length : Int)) = true := decide_eq_true c28
          clear c28
          by_cases c29 : x11_4 = true
          case pos =>
           subst c29
           have H1 : (clinkerlaw08_LiveData.l3 k4 true t441 x8_1 x9_2 x10_2 true x12_3 (wrap64 (x13_4 + 1)) t433 t436) = some r := by rw [if_pos rfl] at H; exact H
           clear H
           have H := H1
           clear H1
           have H' := Aside0.mk H
           clear H
           have p445 : 0 ≤ (x12_3 : Int) := of_decide_eq_true (by first | (with_reducible assumption) | assumption)
           have q445 : x12_3 < (t441.length : Int) := of_decide_eq_true (by first | (with_reducible assumption) | assumption)
           obtain ⟨ad445, A445_3, c445_3, A445_4, c445_4, e445, hx445_0, hx445_1, hx445_2, hx445_3, hx445_4, hl445_3, hi445_3, hl445_4, hi445_4⟩ := at_T44 (Kd.N_reads' HO_7.out).2.2 x12_3 p445 q445
           obtain rfl : ad444 = ad445 := (by injection e445)
           obtain ⟨ce445, hce445, hMe445, hcc445⟩ := Kd.N_get HO_7.out z44 x12_3 p445 (by first | exact q445 | exact of_decide_eq_true (by first | (with_reducible assumption) | assumption) | (have e_ := (Kd.N_reads' HO_7.out).1; omega))
           obtain ⟨ua445_3, uc445_3, ua445_4, uc445_4, rfl, ul445_3, ge445_3, ul445_4, ge445_4⟩ := k44_openF hMe445
           have hv445_3 := hcc445 3 _ rfl
           rw [add_field _ _ 3 (by omega)] at hv445_3
           replace hv445_3 := Option.some.inj (hv445_3.symm.trans hx445_3)
           injection hv445_3 with hva_ hvn_ hvc_
           rw [hva_] at ge445_3
           rw [hvc_] at ul445_3
           have HL445_3 := Aside0.mk (show Kd.V (Kd.int .i64) 3 _ w.heap.size _ _ ((rd_T44 t441 x12_3).f1.f2) from Kd.V_mk ul445_3 ge445_3)
           clear hva_ hvn_ hvc_ ge445_3 ul445_3
           have hv445_4 := hcc445 4 _ rfl
           rw [add_field _ _ 4 (by omega)] at hv445_4
           replace hv445_4 := Option.some.inj (hv445_4.symm.trans hx445_4)
           injection hv445_4 with hva_ hvn_ hvc_
           rw [hva_] at ge445_4
           rw [hvc_] at ul445_4
           have HL445_4 := Aside0.mk (show Kd.V (Kd.int .i64) 3 _ w.heap.size _ _ ((rd_T44 t441 x12_3).f1.f3) from Kd.V_mk ul445_4 ge445_4)
           clear hva_ hvn_ hvc_ ge445_4 ul445_4
           clear hcc445 hce445
           have HR445_3 := Aside0.mk hi445_3
           have HC445_3 := Aside0.mk hl445_3
           clear hi445_3 hl445_3
           have HR445_4 := Aside0.mk hi445_4
           have HC445_4 := Aside0.mk hl445_4
           clear hi445_4 hl445_4
           replace p445 := eq_true p445
           replace q445 := eq_true q445
           try go_wp2
           replace HO_7 := Aside0.mk (Kd.N_drew HO_7.out)
           replace HO_433000 := Aside0.mk (vD HO_433000.out)
           replace HO_441000 := Aside0.mk (Kd.R_drew HO_441000.out)
           replace HO_441001 := Aside0.mk (Kd.R_drew HO_441001.out)
           replace HL445_3 := Aside0.mk (vD HL445_3.out)
           replace HL445_4 := Aside0.mk (vD HL445_4.out)
           replace BK432 := Aside0.mk (bD BK432.out)
           replace BK440 := Aside0.mk (bD BK440.out)
           replace HR444_3 := Aside0.mk (Kd.C_drew HR444_3.out)
           replace HR444_4 := Aside0.mk (Kd.C_drew HR444_4.out)
           replace HR445_3 := Aside0.mk (Kd.C_drew HR445_3.out)
           replace HR445_4 := Aside0.mk (Kd.C_drew HR445_4.out)
           replace HB := Aside0.mk (lD HB.out)
           refine start_ (n := 23) (S := fun w' => True) (ds := []) q0k23 (by kernel_rfl) rfl rfl trivial (fun hHeld => ?_); refine with_tabW clinkerlaw08_LiveData.tab21 clinkerlaw08_LiveData.bits21 (fun HT_ HW_ => ?_)
           generalize wr.drew = w30 at HO_7 HO_433000 HO_441000 HO_441001 HL445_3 HL445_4 BK432 BK440 HR444_3 HR444_4 HR445_3 HR445_4 HB hHeld ⊢
           refine pa 0 (some 62) ?_
           refine pa 1 (some 63) ?_
           refine pc 2 (some 64) ?_
           refine pc 3 (some 65) ?_
           refine pc 4 (some 66) ?_
           refine pc 5 (some 67) ?_
           refine pc 6 (some 68) ?_
           refine pc 7 (some 69) ?_
           refine pc 8 (some 70) ?_
           refine pc 9 (some 71) ?_
           refine pc 10 (some 72) ?_
           refine pc 11 (some 73) ?_
           refine pc 12 (some 74) ?_
           refine pc 13 (some 75) ?_
           refine pc 14 (some 76) ?_
           refine pc 15 (some 77) ?_
           refine pc 16 (some 78) ?_
           refine pc 17 (some 79) ?_
           refine pc 18 (some 80) ?_
           refine pc 19 (some 81) ?_
           refine pc 20 (some 82) ?_
           refine pa 21 (some 83) ?_
           refine pa 22 (some 11) ?_
           refine done_ (done_of HT_.out (by kernel_rfl)) ?_
           try go_wp2
           go_roundg k4
           case measure => have := HK1.out; have := HK2.out; have := HK3.out; have := HK4.out; omega
           case rel => exact ⟨(true), (wrap64 (x13_4 + 1)), (by first | rfl | (simp; done) | (simp [*]; done)), (by first | rfl | (simp; done) | (simp [*]; done)), H', ⟨by have := HK1.out; have := HK2.out; have := HK3.out; have := HK4.out; omega⟩, ⟨mN HO_7.out⟩, ⟨mV HO_433000.out⟩, ⟨mR HO_441000.out⟩, ⟨mR HO_441001.out⟩, ⟨mB BK432.out⟩, ⟨mB BK440.out⟩, ⟨by repeat (first | (with_reducible exact HR444_3.out) | (with_reducible refine Kd.C_alloc ?_ _) | (with_reducible refine Kd.C_drewN ?_ _) | (with_reducible refine Kd.C_drew ?_) | exact HR444_3.out)⟩, ⟨by repeat (first | (with_reducible exact HR444_4.out) | (with_reducible refine Kd.C_alloc ?_ _) | (with_reducible refine Kd.C_drewN ?_ _) | (with_reducible refine Kd.C_drew ?_) | exact HR444_4.out)⟩, ⟨mH⟩⟩
          replace c29 := Bool.eq_false_iff.mpr c29
          subst c29
          have H1 : (if 0 ≤ x13_4 then (if 0 ≤ x8_1 then (if x8_1 < (t441.length : Int) then (if 0 ≤ x10_2 then (if x10_2 < (((rd_T44 t441 x8_1).f1.f2).length : Int) then (clinkerlaw08_LiveData.l3 k4 true t441 x8_1 x9_2 x10_2 ((rd ((rd_T44 t441 x12_3).f1.f2) x13_4) == (rd ((rd_T44 t441 x8_1).f1.f2) x10_2)) x12_3 (wrap64 (x13_4 + 1)) t433 t436) else (none)) else (none)) else (none)) else (none)) else (none)) = some r := by rw [if_neg (show ¬ (false = true) by decide)] at H; exact H
          clear H
          have H := H1
          clear H1
          by_cases c31 : 0 ≤ x13_4
          case neg =>
           rw [if_neg c31] at H
           exact absurd H (by simp)
          rw [if_pos c31] at H
          have c31b0 : decide (0 ≤ x13_4) = true := decide_eq_true c31
          clear c31
          by_cases c32 : 0 ≤ x8_1
          case neg =>
           rw [if_neg c32] at H
           exact absurd H (by simp)
          rw [if_pos c32] at H
          have c32b0 : decide (0 ≤ x8_1) = true := decide_eq_true c32
          clear c32
          by_cases c33 : x8_1 < (t441.length : Int)
          case neg =>
           rw [if_neg c33] at H
           exact absurd H (by simp)
          rw [if_pos c33] at H
          have c33b0 : decide (x8_1 < (t441.length : Int)) = true := decide_eq_true c33
          clear c33
          by_cases c34 : 0 ≤ x10_2
          case neg =>
           rw [if_neg c34] at H
           exact absurd H (by simp)
          rw [if_pos c34] at H
          have c34b0 : decide (0 ≤ x10_2) = true := decide_eq_true c34
          clear c34
          by_cases c35 : x10_2 < (((rd_T44 t441 x8_1).f1.f2).length : Int)
          case neg =>
           rw [if_neg c35] at H
           exact absurd H (by simp)
          rw [if_pos c35] at H
          have c35b0 : decide (x10_2 < (((rd_T44 t441 x8_1).f1.f2).length : Int)) = true := decide_eq_true c35
          clear c35
          have H' := Aside0.mk H
          clear H
          have p445 : 0 ≤ (x12_3 : Int) := of_decide_eq_true (by first | (with_reducible assumption) | assumption)
          have q445 : x12_3 < (t441.length : Int) := of_decide_eq_true (by first | (with_reducible assumption) | assumption)
          obtain ⟨ad445, A445_3, c445_3, A445_4, c445_4, e445, hx445_0, hx445_1, hx445_2, hx445_3, hx445_4, hl445_3, hi445_3, hl445_4, hi445_4⟩ := at_T44 (Kd.N_reads' HO_7.out).2.2 x12_3 p445 q445
          obtain rfl : ad444 = ad445 := (by injection e445)
          obtain ⟨ce445, hce445, hMe445, hcc445⟩ := Kd.N_get HO_7.out z44 x12_3 p445 (by first | exact q445 | exact of_decide_eq_true (by first | (with_reducible assumption) | assumption) | (have e_ := (Kd.N_reads' HO_7.out).1; omega))
          obtain ⟨ua445_3, uc445_3, ua445_4, uc445_4, rfl, ul445_3, ge445_3, ul445_4, ge445_4⟩ := k44_openF hMe445
          have hv445_3 := hcc445 3 _ rfl
          rw [add_field _ _ 3 (by omega)] at hv445_3
          replace hv445_3 := Option.some.inj (hv445_3.symm.trans hx445_3)
          injection hv445_3 with hva_ hvn_ hvc_
          rw [hva_] at ge445_3
          rw [hvc_] at ul445_3
          have HL445_3 := Aside0.mk (show Kd.V (Kd.int .i64) 3 _ w.heap.size _ _ ((rd_T44 t441 x12_3).f1.f2) from Kd.V_mk ul445_3 ge445_3)
          clear hva_ hvn_ hvc_ ge445_3 ul445_3
          have hv445_4 := hcc445 4 _ rfl
          rw [add_field _ _ 4 (by omega)] at hv445_4
          replace hv445_4 := Option.some.inj (hv445_4.symm.trans hx445_4)
          injection hv445_4 with hva_ hvn_ hvc_
          rw [hva_] at ge445_4
          rw [hvc_] at ul445_4
          have HL445_4 := Aside0.mk (show Kd.V (Kd.int .i64) 3 _ w.heap.size _ _ ((rd_T44 t441 x12_3).f1.f3) from Kd.V_mk ul445_4 ge445_4)
          clear hva_ hvn_ hvc_ ge445_4 ul445_4
          clear hcc445 hce445
          have HR445_3 := Aside0.mk hi445_3
          have HC445_3 := Aside0.mk hl445_3
          clear hi445_3 hl445_3
          have HR445_4 := Aside0.mk hi445_4
          have HC445_4 := Aside0.mk hl445_4
          clear hi445_4 hl445_4
          replace p445 := eq_true p445
          replace q445 := eq_true q445
          try go_wp2
          replace HO_7 := Aside0.mk (Kd.N_drew HO_7.out)
          replace HO_433000 := Aside0.mk (vD HO_433000.out)
          replace HO_441000 := Aside0.mk (Kd.R_drew HO_441000.out)
          replace HO_441001 := Aside0.mk (Kd.R_drew HO_441001.out)
          replace HL445_3 := Aside0.mk (vD HL445_3.out)
          replace HL445_4 := Aside0.mk (vD HL445_4.out)
          replace BK432 := Aside0.mk (bD BK432.out)
          replace BK440 := Aside0.mk (bD BK440.out)
          replace HR444_3 := Aside0.mk (Kd.C_drew HR444_3.out)
          replace HR444_4 := Aside0.mk (Kd.C_drew HR444_4.out)
          replace HR445_3 := Aside0.mk (Kd.C_drew HR445_3.out)
          replace HR445_4 := Aside0.mk (Kd.C_drew HR445_4.out)
          replace HB := Aside0.mk (lD HB.out)
          have p446 : 0 ≤ (x12_3 : Int) := of_decide_eq_true (by first | (with_reducible assumption) | assumption)
          have q446 : x12_3 < (t441.length : Int) := of_decide_eq_true (by first | (with_reducible assumption) | assumption)
          obtain ⟨ad446, A446_3, c446_3, A446_4, c446_4, e446, hx446_0, hx446_1, hx446_2, hx446_3, hx446_4, hl446_3, hi446_3, hl446_4, hi446_4⟩ := at_T44 (Kd.N_reads' HO_7.out).2.2 x12_3 p446 q446
          obtain rfl : ad444 = ad446 := (by injection e446)
          obtain ⟨ce446, hce446, hMe446, hcc446⟩ := Kd.N_get HO_7.out z44 x12_3 p446 (by first | exact q446 | exact of_decide_eq_true (by first | (with_reducible assumption) | assumption) | (have e_ := (Kd.N_reads' HO_7.out).1; omega))
          obtain ⟨ua446_3, uc446_3, ua446_4, uc446_4, rfl, ul446_3, ge446_3, ul446_4, ge446_4⟩ := k44_openF hMe446
          have hv446_3 := hcc446 3 _ rfl
          rw [add_field _ _ 3 (by omega)] at hv446_3
          replace hv446_3 := Option.some.inj (hv446_3.symm.trans hx446_3)
          injection hv446_3 with hva_ hvn_ hvc_
          rw [hva_] at ge446_3
          rw [hvc_] at ul446_3
          have HL446_3 := Aside0.mk (show Kd.V (Kd.int .i64) 3 _ w.heap.size _ _ ((rd_T44 t441 x12_3).f1.f2) from Kd.V_mk ul446_3 ge446_3)
          clear hva_ hvn_ hvc_ ge446_3 ul446_3
          have hv446_4 := hcc446 4 _ rfl
          rw [add_field _ _ 4 (by omega)] at hv446_4
          replace hv446_4 := Option.some.inj (hv446_4.symm.trans hx446_4)
          injection hv446_4 with hva_ hvn_ hvc_
          rw [hva_] at ge446_4
          rw [hvc_] at ul446_4
          have HL446_4 := Aside0.mk (show Kd.V (Kd.int .i64) 3 _ w.heap.size _ _ ((rd_T44 t441 x12_3).f1.f3) from Kd.V_mk ul446_4 ge446_4)
          clear hva_ hvn_ hvc_ ge446_4 ul446_4
          clear hcc446 hce446
          have HR446_3 := Aside0.mk hi446_3
          have HC446_3 := Aside0.mk hl446_3
          clear hi446_3 hl446_3
          have HR446_4 := Aside0.mk hi446_4
          have HC446_4 := Aside0.mk hl446_4
          clear hi446_4 hl446_4
          replace p446 := eq_true p446
          replace q446 := eq_true q446
          have p447 : 0 ≤ (x13_4 : Int) := of_decide_eq_true (by first | (with_reducible assumption) | assumption)
          have q447 : x13_4 < (((rd_T44 t441 x12_3).f1.f2).length : Int) := of_decide_eq_true (by first | (with_reducible assumption) | assumption)
          obtain ⟨ad447, e447, hx447_0⟩ := Kd.at_int (by repeat (first | (with_reducible exact HR446_3.out) | (with_reducible refine Kd.C_alloc ?_ _) | (with_reducible refine Kd.C_drewN ?_ _) | (with_reducible refine Kd.C_drew ?_) | exact HR446_3.out)) x13_4 p447 q447
          cases e447
          replace p447 := eq_true p447
          replace q447 := eq_true q447
          have p448 : 0 ≤ (x8_1 : Int) := of_decide_eq_true (by first | (with_reducible assumption) | assumption)
          have q448 : x8_1 < (t441.length : Int) := of_decide_eq_true (by first | (with_reducible assumption) | assumption)
          obtain ⟨ad448, A448_3, c448_3, A448_4, c448_4, e448, hx448_0, hx448_1, hx448_2, hx448_3, hx448_4, hl448_3, hi448_3, hl448_4, hi448_4⟩ := at_T44 (Kd.N_reads' HO_7.out).2.2 x8_1 p448 q448
          obtain rfl : ad444 = ad448 := (by injection e448)
          obtain ⟨ce448, hce448, hMe448, hcc448⟩ := Kd.N_get HO_7.out z44 x8_1 p448 (by first | exact q448 | exact of_decide_eq_true (by first | (with_reducible assumption) | assumption) | (have e_ := (Kd.N_reads' HO_7.out).1; omega))
          obtain ⟨ua448_3, uc448_3, ua448_4, uc448_4, rfl, ul448_3, ge448_3, ul448_4, ge448_4⟩ := k44_openF hMe448
          have hv448_3 := hcc448 3 _ rfl
          rw [add_field _ _ 3 (by omega)] at hv448_3
          replace hv448_3 := Option.some.inj (hv448_3.symm.trans hx448_3)
          injection hv448_3 with hva_ hvn_ hvc_
          rw [hva_] at ge448_3
          rw [hvc_] at ul448_3
          have HL448_3 := Aside0.mk (show Kd.V (Kd.int .i64) 3 _ w.heap.size _ _ ((rd_T44 t441 x8_1).f1.f2) from Kd.V_mk ul448_3 ge448_3)
          clear hva_ hvn_ hvc_ ge448_3 ul448_3
          have hv448_4 := hcc448 4 _ rfl
          rw [add_field _ _ 4 (by omega)] at hv448_4
          replace hv448_4 := Option.some.inj (hv448_4.symm.trans hx448_4)
          injection hv448_4 with hva_ hvn_ hvc_
          rw [hva_] at ge448_4
          rw [hvc_] at ul448_4
          have HL448_4 := Aside0.mk (show Kd.V (Kd.int .i64) 3 _ w.heap.size _ _ ((rd_T44 t441 x8_1).f1.f3) from Kd.V_mk ul448_4 ge448_4)
          clear hva_ hvn_ hvc_ ge448_4 ul448_4
          clear hcc448 hce448
          have HR448_3 := Aside0.mk hi448_3
          have HC448_3 := Aside0.mk hl448_3
          clear hi448_3 hl448_3
          have HR448_4 := Aside0.mk hi448_4
          have HC448_4 := Aside0.mk hl448_4
          clear hi448_4 hl448_4
          replace p448 := eq_true p448
          replace q448 := eq_true q448
          have p449 : 0 ≤ (x10_2 : Int) := of_decide_eq_true (by first | (with_reducible assumption) | assumption)
          have q449 : x10_2 < (((rd_T44 t441 x8_1).f1.f2).length : Int) := of_decide_eq_true (by first | (with_reducible assumption) | assumption)
          obtain ⟨ad449, e449, hx449_0⟩ := Kd.at_int (by repeat (first | (with_reducible exact HR448_3.out) | (with_reducible refine Kd.C_alloc ?_ _) | (with_reducible refine Kd.C_drewN ?_ _) | (with_reducible refine Kd.C_drew ?_) | exact HR448_3.out)) x10_2 p449 q449
          cases e449
          replace p449 := eq_true p449
          replace q449 := eq_true q449
          refine start_ (n := 23) (S := fun w' => w'.cell? (ad444.add ((x12_3).toNat * 5)) = some (.int .i64 ((rd_T44 t441 x12_3).f0)) ∧ w'.cell? ⟨(ad444.add ((x12_3).toNat * 5)).block, (ad444.add ((x12_3).toNat * 5)).off + 1, none⟩ = some (.int .i64 ((rd_T44 t441 x12_3).f1.f0)) ∧ w'.cell? ⟨(ad444.add ((x12_3).toNat * 5)).block, (ad444.add ((x12_3).toNat * 5)).off + 2, none⟩ = some (.int .i64 ((rd_T44 t441 x12_3).f1.f1)) ∧ w'.cell? ⟨(ad444.add ((x12_3).toNat * 5)).block, (ad444.add ((x12_3).toNat * 5)).off + 3, none⟩ = some (.slice (some ad447) ((rd_T44 t441 x12_3).f1.f2).length c446_3) ∧ w'.cell? ⟨(ad444.add ((x12_3).toNat * 5)).block, (ad444.add ((x12_3).toNat * 5)).off + 4, none⟩ = some (.slice A446_4 ((rd_T44 t441 x12_3).f1.f3).length c446_4) ∧ w'.cell? (ad447.add (x13_4).toNat) = some (.int .i64 (rd ((rd_T44 t441 x12_3).f1.f2) x13_4)) ∧ w'.cell? (ad444.add ((x8_1).toNat * 5)) = some (.int .i64 ((rd_T44 t441 x8_1).f0)) ∧ w'.cell? ⟨(ad444.add ((x8_1).toNat * 5)).block, (ad444.add ((x8_1).toNat * 5)).off + 1, none⟩ = some (.int .i64 ((rd_T44 t441 x8_1).f1.f0)) ∧ w'.cell? ⟨(ad444.add ((x8_1).toNat * 5)).block, (ad444.add ((x8_1).toNat * 5)).off + 2, none⟩ = some (.int .i64 ((rd_T44 t441 x8_1).f1.f1)) ∧ w'.cell? ⟨(ad444.add ((x8_1).toNat * 5)).block, (ad444.add ((x8_1).toNat * 5)).off + 3, none⟩ = some (.slice (some ad449) ((rd_T44 t441 x8_1).f1.f2).length c448_3) ∧ w'.cell? ⟨(ad444.add ((x8_1).toNat * 5)).block, (ad444.add ((x8_1).toNat * 5)).off + 4, none⟩ = some (.slice A448_4 ((rd_T44 t441 x8_1).f1.f3).length c448_4) ∧ w'.cell? (ad449.add (x10_2).toNat) = some (.int .i64 (rd ((rd_T44 t441 x8_1).f1.f2) x10_2))) (ds := []) q0k23 (by kernel_rfl) rfl rfl ⟨hx446_0, hx446_1, hx446_2, hx446_3, hx446_4, hx447_0, hx448_0, hx448_1, hx448_2, hx448_3, hx448_4, hx449_0⟩ (fun hHeld => ?_); refine with_tabW clinkerlaw08_LiveData.tab21 clinkerlaw08_LiveData.bits21 (fun HT_ HW_ => ?_)
          generalize wr.drew = w36 at HO_7 HO_433000 HO_441000 HO_441001 HL445_3 HL445_4 BK432 BK440 HR444_3 HR444_4 HR445_3 HR445_4 HB HL446_3 HL446_4 HL448_3 HL448_4 HR446_3 HR446_4 HR448_3 HR448_4 hx446_0 hx446_1 hx446_2 hx446_3 hx446_4 hx447_0 hx448_0 hx448_1 hx448_2 hx448_3 hx448_4 hx449_0 hHeld ⊢
          refine pa 0 (some 62) ?_
          refine pa 1 (some 63) ?_
          refine pa 2 (some 64) ?_
          refine pa 3 (some 65) ?_
          refine pa 4 (some 66) ?_
          refine pa 5 (some 67) ?_
          refine pa 6 (some 68) ?_
          refine pa 8 (some 70) ?_
          refine pa 11 (some 73) ?_
          refine pa 12 (some 74) ?_
          refine pa 13 (some 75) ?_
          refine pa 14 (some 76) ?_
          refine pa 15 (some 77) ?_
          refine pa 17 (some 79) ?_
          refine ta 7 (some 69) hHeld ?_
          refine pa 9 (some 71) ?_
          refine ta 10 (some 72) hHeld ?_
          refine ta 16 (some 78) hHeld ?_
          refine pa 18 (some 80) ?_
          refine ta 19 (some 81) hHeld ?_
          refine pa 20 (some 82) ?_
          refine pa 21 (some 83) ?_
          refine pa 22 (some 11) ?_
          refine done_ (done_of HT_.out (by kernel_rfl)) ?_
          try go_wp2
          go_roundg k4
          case measure => have := HK1.out; have := HK2.out; have := HK3.out; have := HK4.out; omega
          case rel => exact ⟨(((rd ((rd_T44 t441 x12_3).f1.f2) x13_4) == (rd ((rd_T44 t441 x8_1).f1.f2) x10_2))), (wrap64 (x13_4 + 1)), (by first | rfl | (simp; done) | (simp [*]; done)), (by first | rfl | (simp; done) | (simp [*]; done)), H', ⟨by have := HK1.out; have := HK2.out; have := HK3.out; have := HK4.out; omega⟩, ⟨mN HO_7.out⟩, ⟨mV HO_433000.out⟩, ⟨mR HO_441000.out⟩, ⟨mR HO_441001.out⟩, ⟨mB BK432.out⟩, ⟨mB BK440.out⟩, ⟨by repeat (first | (with_reducible exact HR444_3.out) | (with_reducible refine Kd.C_alloc ?_ _) | (with_reducible refine Kd.C_drewN ?_ _) | (with_reducible refine Kd.C_drew ?_) | exact HR444_3.out)⟩, ⟨by repeat (first | (with_reducible exact HR444_4.out) | (with_reducible refine Kd.C_alloc ?_ _) | (with_reducible refine Kd.C_drewN ?_ _) | (with_reducible refine Kd.C_drew ?_) | exact HR444_4.out)⟩, ⟨mH⟩⟩
     rw [if_neg c24] at H
     have c24b0 : decide (x10_2 < (((rd_T44 t441 x8_1).f1.f2).length : Int)) = false := decide_eq_false c24
     clear c24
     have HC38 := Aside0.mk H
     clear H
     have p444 : 0 ≤ (x8_1 : Int) := of_decide_eq_true (by first | (with_reducible assumption) | assumption)
     have q444 : x8_1 < (t441.length : Int) := of_decide_eq_true (by first | (with_reducible assumption) | assumption)
     obtain ⟨ad444, A444_3, c444_3, A444_4, c444_4, e444, hx444_0, hx444_1, hx444_2, hx444_3, hx444_4, hl444_3, hi444_3, hl444_4, hi444_4⟩ := at_T44 (Kd.N_reads' HO_7.out).2.2 x8_1 p444 q444
     cases e444
     obtain ⟨ce444, hce444, hMe444, hcc444⟩ := Kd.N_get HO_7.out z44 x8_1 p444 (by first | exact q444 | exact of_decide_eq_true (by first | (with_reducible assumption) | assumption) | (have e_ := (Kd.N_reads' HO_7.out).1; omega))
     obtain ⟨ua444_3, uc444_3, ua444_4, uc444_4, rfl, ul444_3, ge444_3, ul444_4, ge444_4⟩ := k44_openF hMe444
     have hv444_3 := hcc444 3 _ rfl
     rw [add_field _ _ 3 (by omega)] at hv444_3
     replace hv444_3 := Option.some.inj (hv444_3.symm.trans hx444_3)
     injection hv444_3 with hva_ hvn_ hvc_
     rw [hva_] at ge444_3
     rw [hvc_] at ul444_3
     have HL444_3 := Aside0.mk (show Kd.V (Kd.int .i64) 3 _ w.heap.size _ _ ((rd_T44 t441 x8_1).f1.f2) from Kd.V_mk ul444_3 ge444_3)
     clear hva_ hvn_ hvc_ ge444_3 ul444_3
     have hv444_4 := hcc444 4 _ rfl
     rw [add_field _ _ 4 (by omega)] at hv444_4
     replace hv444_4 := Option.some.inj (hv444_4.symm.trans hx444_4)
     injection hv444_4 with hva_ hvn_ hvc_
     rw [hva_] at ge444_4
     rw [hvc_] at ul444_4
     have HL444_4 := Aside0.mk (show Kd.V (Kd.int .i64) 3 _ w.heap.size _ _ ((rd_T44 t441 x8_1).f1.f3) from Kd.V_mk ul444_4 ge444_4)
     clear hva_ hvn_ hvc_ ge444_4 ul444_4
     clear hcc444 hce444
     have HR444_3 := Aside0.mk hi444_3
     have HC444_3 := Aside0.mk hl444_3
     clear hi444_3 hl444_3
     have HR444_4 := Aside0.mk hi444_4
     have HC444_4 := Aside0.mk hl444_4
     clear hi444_4 hl444_4
     replace p444 := eq_true p444
     replace q444 := eq_true q444
     go_upto_region 23 with (fail)
     go_cut [99] (fun v99 wc => ∃ (kq : Nat) (x99_37 : Bool), v99 = .bool x99_37 ∧ Aside0 (clinkerlaw08_LiveData.j4 kq true t441 x8_1 x9_2 x99_37 t433 t436 = some r) ∧ Aside0 (kq ≤ k2) ∧ Aside0 (Kd.N k44 44 wc w.heap.size (fun k_ => some k_ ≠ ((.slice Ao14 t433.length co14) : Value).ownBlock ∧ some k_ ≠ ((.slice Ao17 t436.length co17) : Value).ownBlock ∧ k_ ≠ gb432 ∧ k_ ≠ gb440) (.slice (some ad444) t441.length co21) t441) ∧ Aside0 (Kd.V k62 62 wc w.heap.size (fun k_ => some k_ ≠ ((.slice (some ad444) t441.length co21) : Value).ownBlock ∧ some k_ ≠ ((.slice Ao14 t433.length co14) : Value).ownBlock ∧ some k_ ≠ ((.slice Ao17 t436.length co17) : Value).ownBlock ∧ k_ ≠ gb432 ∧ k_ ≠ gb440) (.slice Ao10 t426.length co10) t426) ∧ Aside0 (Kd.R (Kd.int .i64) 3 wc w.heap.size (fun k_ => some k_ ≠ ((.slice Ao17 t436.length co17) : Value).ownBlock) (.slice Ao14 t433.length co14) t433) ∧ Aside0 (Kd.R (Kd.int .i64) 3 wc w.heap.size (fun k_ => some k_ ≠ ((.slice Ao14 t433.length co14) : Value).ownBlock) (.slice Ao17 t436.length co17) t436) ∧ Aside0 (wc.heap[gb432]? = some (.cells #[(.slice Ao10 t426.length co10), .bool t429, .bool t430, .int .i64 t431] 32 (0, 0))) ∧ Aside0 (wc.heap[gb440]? = some (.cells #[(.slice Ao14 t433.length co14), (.slice Ao17 t436.length co17)] 24 (0, 0))) ∧ Aside0 (Kd.C (Kd.int .i64) wc A444_3 ((rd_T44 t441 x8_1).f1.f2).length ((rd_T44 t441 x8_1).f1.f2)) ∧ Aside0 (Kd.C (Kd.int .i64) wc A444_4 ((rd_T44 t441 x8_1).f1.f3).length ((rd_T44 t441 x8_1).f1.f3)) ∧ Aside0 (Below w.heap.size w wc))
     case first =>
      have H := HC38.out
      clear HC38
      by_cases c39 : x9_2 = true
      case neg =>
       replace c39 := Bool.eq_false_iff.mpr c39
       subst c39
       have H1 : (clinkerlaw08_LiveData.j4 k2 true t441 x8_1 false false t433 t436) = some r := by rw [if_neg (show ¬ (false = true) by decide)] at H; exact H
       clear H
       have H := H1
       clear H1
       have H' := Aside0.mk H
       clear H
       try go_wp2
       replace HO_7 := Aside0.mk (Kd.N_drew HO_7.out)
       replace HO_433000 := Aside0.mk (vD HO_433000.out)
       replace HO_441000 := Aside0.mk (Kd.R_drew HO_441000.out)
       replace HO_441001 := Aside0.mk (Kd.R_drew HO_441001.out)
       replace HL444_3 := Aside0.mk (vD HL444_3.out)
       replace HL444_4 := Aside0.mk (vD HL444_4.out)
       replace BK432 := Aside0.mk (bD BK432.out)
       replace BK440 := Aside0.mk (bD BK440.out)
       replace HR444_3 := Aside0.mk (Kd.C_drew HR444_3.out)
       replace HR444_4 := Aside0.mk (Kd.C_drew HR444_4.out)
       replace HB := Aside0.mk (lD HB.out)
       refine start_ (n := 11) (S := fun w' => True) (ds := []) q1k23 (by kernel_rfl) rfl rfl trivial (fun hHeld => ?_); refine with_tabW clinkerlaw08_LiveData.tab23 clinkerlaw08_LiveData.bits23 (fun HT_ HW_ => ?_)
       generalize wr.drew = w43 at HO_7 HO_433000 HO_441000 HO_441001 HL444_3 HL444_4 BK432 BK440 HR444_3 HR444_4 HB hHeld ⊢
       refine pa 0 (some 89) ?_
       refine pa 1 (some 90) ?_
       refine pc 2 (some 91) ?_
       refine pc 3 (some 92) ?_
       refine pc 4 (some 93) ?_
       refine pc 5 (some 94) ?_
       refine pc 6 (some 95) ?_
       refine pc 7 (some 96) ?_
       refine pc 8 (some 97) ?_
       refine pc 9 (some 98) ?_
       refine pa 10 (some 99) ?_
       refine done_ (done_of HT_.out (by kernel_rfl)) ?_
       try go_wp2
       go_meet
       case rel => exact ⟨_, (false), (by first | rfl | (simp; done) | (simp [*]; done)), H', ⟨by have := HK1.out; have := HK2.out; first | omega | exact Nat.le_refl _⟩, ⟨mN HO_7.out⟩, ⟨mV HO_433000.out⟩, ⟨mR HO_441000.out⟩, ⟨mR HO_441001.out⟩, ⟨mB BK432.out⟩, ⟨mB BK440.out⟩, ⟨by repeat (first | (with_reducible exact HR444_3.out) | (with_reducible refine Kd.C_alloc ?_ _) | (with_reducible refine Kd.C_drewN ?_ _) | (with_reducible refine Kd.C_drew ?_) | exact HR444_3.out)⟩, ⟨by repeat (first | (with_reducible exact HR444_4.out) | (with_reducible refine Kd.C_alloc ?_ _) | (with_reducible refine Kd.C_drewN ?_ _) | (with_reducible refine Kd.C_drew ?_) | exact HR444_4.out)⟩, ⟨mH⟩⟩
      subst c39
      have H1 : ((live_Live.f k2 t433 t436 ((rd_T44 t441 x8_1).f0)).bind fun t451 => (clinkerlaw08_LiveData.j4 k2 true t441 x8_1 true (!t451) t433 t436)) = some r := by rw [if_pos rfl] at H; exact H
      clear H
      have H := H1
      clear H1
      replace H := Option.bind_eq_some_iff.mp H
      obtain ⟨t451, A400, H⟩ := H
      replace H : (clinkerlaw08_LiveData.j4 k2 true t441 x8_1 true (!t451) t433 t436) = some r := H
      have A40 := Aside0.mk A400
      clear A400
      have H' := Aside0.mk H
      clear H
      try go_wp2
      replace HO_7 := Aside0.mk (Kd.N_drew HO_7.out)
      replace HO_433000 := Aside0.mk (vD HO_433000.out)
      replace HO_441000 := Aside0.mk (Kd.R_drew HO_441000.out)
      replace HO_441001 := Aside0.mk (Kd.R_drew HO_441001.out)
      replace HL444_3 := Aside0.mk (vD HL444_3.out)
      replace HL444_4 := Aside0.mk (vD HL444_4.out)
      replace BK432 := Aside0.mk (bD BK432.out)
      replace BK440 := Aside0.mk (bD BK440.out)
      replace HR444_3 := Aside0.mk (Kd.C_drew HR444_3.out)
      replace HR444_4 := Aside0.mk (Kd.C_drew HR444_4.out)
      replace HB := Aside0.mk (lD HB.out)
      have p450 : 0 ≤ (x8_1 : Int) := of_decide_eq_true (by first | (with_reducible assumption) | assumption)
      have q450 : x8_1 < (t441.length : Int) := of_decide_eq_true (by first | (with_reducible assumption) | assumption)
      obtain ⟨ad450, A450_3, c450_3, A450_4, c450_4, e450, hx450_0, hx450_1, hx450_2, hx450_3, hx450_4, hl450_3, hi450_3, hl450_4, hi450_4⟩ := at_T44 (Kd.N_reads' HO_7.out).2.2 x8_1 p450 q450
      obtain rfl : ad444 = ad450 := (by injection e450)
      obtain ⟨ce450, hce450, hMe450, hcc450⟩ := Kd.N_get HO_7.out z44 x8_1 p450 (by first | exact q450 | exact of_decide_eq_true (by first | (with_reducible assumption) | assumption) | (have e_ := (Kd.N_reads' HO_7.out).1; omega))
      obtain ⟨ua450_3, uc450_3, ua450_4, uc450_4, rfl, ul450_3, ge450_3, ul450_4, ge450_4⟩ := k44_openF hMe450
      have hv450_3 := hcc450 3 _ rfl
      rw [add_field _ _ 3 (by omega)] at hv450_3
      replace hv450_3 := Option.some.inj (hv450_3.symm.trans hx450_3)
      injection hv450_3 with hva_ hvn_ hvc_
      rw [hva_] at ge450_3
      rw [hvc_] at ul450_3
      have HL450_3 := Aside0.mk (show Kd.V (Kd.int .i64) 3 _ w.heap.size _ _ ((rd_T44 t441 x8_1).f1.f2) from Kd.V_mk ul450_3 ge450_3)
      clear hva_ hvn_ hvc_ ge450_3 ul450_3
      have hv450_4 := hcc450 4 _ rfl
      rw [add_field _ _ 4 (by omega)] at hv450_4
      replace hv450_4 := Option.some.inj (hv450_4.symm.trans hx450_4)
      injection hv450_4 with hva_ hvn_ hvc_
      rw [hva_] at ge450_4
      rw [hvc_] at ul450_4
      have HL450_4 := Aside0.mk (show Kd.V (Kd.int .i64) 3 _ w.heap.size _ _ ((rd_T44 t441 x8_1).f1.f3) from Kd.V_mk ul450_4 ge450_4)
      clear hva_ hvn_ hvc_ ge450_4 ul450_4
      clear hcc450 hce450
      have HR450_3 := Aside0.mk hi450_3
      have HC450_3 := Aside0.mk hl450_3
      clear hi450_3 hl450_3
      have HR450_4 := Aside0.mk hi450_4
      have HC450_4 := Aside0.mk hl450_4
      clear hi450_4 hl450_4
      replace p450 := eq_true p450
      replace q450 := eq_true q450
      refine start_ (n := 11) (S := fun w' => w'.cell? ⟨gb440, 0, none⟩ = some (.slice Ao14 t433.length co14) ∧ w'.cell? ⟨gb440, 1, none⟩ = some (.slice Ao17 t436.length co17) ∧ w'.cell? (ad444.add ((x8_1).toNat * 5)) = some (.int .i64 ((rd_T44 t441 x8_1).f0)) ∧ w'.cell? ⟨(ad444.add ((x8_1).toNat * 5)).block, (ad444.add ((x8_1).toNat * 5)).off + 1, none⟩ = some (.int .i64 ((rd_T44 t441 x8_1).f1.f0)) ∧ w'.cell? ⟨(ad444.add ((x8_1).toNat * 5)).block, (ad444.add ((x8_1).toNat * 5)).off + 2, none⟩ = some (.int .i64 ((rd_T44 t441 x8_1).f1.f1)) ∧ w'.cell? ⟨(ad444.add ((x8_1).toNat * 5)).block, (ad444.add ((x8_1).toNat * 5)).off + 3, none⟩ = some (.slice A450_3 ((rd_T44 t441 x8_1).f1.f2).length c450_3) ∧ w'.cell? ⟨(ad444.add ((x8_1).toNat * 5)).block, (ad444.add ((x8_1).toNat * 5)).off + 4, none⟩ = some (.slice A450_4 ((rd_T44 t441 x8_1).f1.f3).length c450_4)) (ds := []) q1k23 (by kernel_rfl) rfl rfl ⟨(blk_cell BK440.out 0).trans rfl, (blk_cell BK440.out 1).trans rfl, hx450_0, hx450_1, hx450_2, hx450_3, hx450_4⟩ (fun hHeld => ?_); refine with_tabW clinkerlaw08_LiveData.tab23 clinkerlaw08_LiveData.bits23 (fun HT_ HW_ => ?_)
      generalize wr.drew = w41 at HO_7 HO_433000 HO_441000 HO_441001 HL444_3 HL444_4 BK432 BK440 HR444_3 HR444_4 HB HL450_3 HL450_4 HR450_3 HR450_4 hx450_0 hx450_1 hx450_2 hx450_3 hx450_4 hHeld ⊢
      refine pa 0 (some 89) ?_
      refine pa 1 (some 90) ?_
      refine pa 3 (some 92) ?_
      refine pa 4 (some 93) ?_
      refine pa 5 (some 94) ?_
      refine pa 6 (some 95) ?_
      refine ta 2 (some 91) hHeld ?_
      refine ta 7 (some 96) hHeld ?_
      refine one_ (i := 8) (N := some 97) q2k23 rfl rfl (one_of HT_.out (by kernel_rfl)) (by decide) (fun K hK => ?_)
      refine goes_ Try.func14 (by kernel_rfl) rfl #[.agg #[.slice Ao14 t433.length co14, .slice Ao17 t436.length co17], .int .i64 ((rd_T44 t441 x8_1).f0)] (by rfl) rfl rfl (by (try simp only [List.map_toArray, List.map_cons, List.map_nil]); first | done | rfl | (simp only [List.length_drop, List.length_take]; rfl)) ?_
      with_reducible refine (live_Live.calls k2 _ _ t433 _ _ t436 ((rd_T44 t441 x8_1).f0) t451 _ ?side1 ?side2 ?side3 ?side4 A40.out).mono ?_
      (case side1 => repeat (first | exact (Kd.R_reads' HO_441000.out).2.2 | (with_reducible refine Kd.C_alloc ?_ _) | (with_reducible refine Kd.C_drewN ?_ _) | (with_reducible refine Kd.C_drew ?_)))
      (case side2 => exact (Kd.R_reads' HO_441000.out).2.1)
      (case side3 => repeat (first | exact (Kd.R_reads' HO_441001.out).2.2 | (with_reducible refine Kd.C_alloc ?_ _) | (with_reducible refine Kd.C_drewN ?_ _) | (with_reducible refine Kd.C_drew ?_)))
      (case side4 => exact (Kd.R_reads' HO_441001.out).2.1)
      rintro e w42 ⟨rfl, hb⟩
      have HS2_ := (hb.cell (World.block_lt_of_cell? _ _ (hHeld.2.2.1))).trans (hHeld.2.2.1)
      have HS3_ := (hb.cell (World.block_lt_of_cell? _ _ (hHeld.2.2.2.1))).trans (hHeld.2.2.2.1)
      have HS4_ := (hb.cell (World.block_lt_of_cell? _ _ (hHeld.2.2.2.2.1))).trans (hHeld.2.2.2.2.1)
      have HS5_ := (hb.cell (World.block_lt_of_cell? _ _ (hHeld.2.2.2.2.2.1))).trans (hHeld.2.2.2.2.2.1)
      have HS6_ := (hb.cell (World.block_lt_of_cell? _ _ (hHeld.2.2.2.2.2.2))).trans (hHeld.2.2.2.2.2.2)
      refine ⟨_, rfl, ?_⟩
      replace HO_7 := Aside0.mk (Kd.N_below (mN HO_7.out) hb)
      replace HO_433000 := Aside0.mk (Kd.V_below (mV HO_433000.out) hb)
      replace HO_441000 := Aside0.mk (Kd.R_below (mR HO_441000.out) hb)
      replace HO_441001 := Aside0.mk (Kd.R_below (mR HO_441001.out) hb)
      replace HL444_3 := Aside0.mk (Kd.V_below (mV HL444_3.out) hb)
      replace HL444_4 := Aside0.mk (Kd.V_below (mV HL444_4.out) hb)
      replace HL450_3 := Aside0.mk (Kd.V_below (mV HL450_3.out) hb)
      replace HL450_4 := Aside0.mk (Kd.V_below (mV HL450_4.out) hb)
      replace BK432 := Aside0.mk (bb BK432.out hb)
      replace BK440 := Aside0.mk (bb BK440.out hb)
      replace HR444_3 := Aside0.mk (Kd.C_below (by repeat (first | (with_reducible exact HR444_3.out) | (with_reducible refine Kd.C_alloc ?_ _) | (with_reducible refine Kd.C_drewN ?_ _) | (with_reducible refine Kd.C_drew ?_) | exact HR444_3.out)) hb)
      replace HR444_4 := Aside0.mk (Kd.C_below (by repeat (first | (with_reducible exact HR444_4.out) | (with_reducible refine Kd.C_alloc ?_ _) | (with_reducible refine Kd.C_drewN ?_ _) | (with_reducible refine Kd.C_drew ?_) | exact HR444_4.out)) hb)
      replace HR450_3 := Aside0.mk (Kd.C_below (by repeat (first | (with_reducible exact HR450_3.out) | (with_reducible refine Kd.C_alloc ?_ _) | (with_reducible refine Kd.C_drewN ?_ _) | (with_reducible refine Kd.C_drew ?_) | exact HR450_3.out)) hb)
      replace HR450_4 := Aside0.mk (Kd.C_below (by repeat (first | (with_reducible exact HR450_4.out) | (with_reducible refine Kd.C_alloc ?_ _) | (with_reducible refine Kd.C_drewN ?_ _) | (with_reducible refine Kd.C_drew ?_) | exact HR450_4.out)) hb)
      replace HB := Aside0.mk (bst hb)
      (try clear hb)
      (try clear hb2)
      (try clear hk)
      (try clear hi)
      refine hK.out _ _ ⟨(blk_cell BK440.out 0).trans rfl, (blk_cell BK440.out 1).trans rfl, HS2_, HS3_, HS4_, HS5_, HS6_⟩ (fun hHeld => ?_)
      clear hK K
      refine na (some 97) ?_
      refine pa 9 (some 98) ?_
      refine pa 10 (some 99) ?_
      refine done_ (done_of HT_.out (by kernel_rfl)) ?_
      try go_wp2
      go_meet
      case rel => exact ⟨_, (!t451), (by first | rfl | (simp; done) | (simp [*]; done)), H', ⟨by have := HK1.out; have := HK2.out; first | omega | exact Nat.le_refl _⟩, ⟨mN HO_7.out⟩, ⟨mV HO_433000.out⟩, ⟨mR HO_441000.out⟩, ⟨mR HO_441001.out⟩, ⟨mB BK432.out⟩, ⟨mB BK440.out⟩, ⟨by repeat (first | (with_reducible exact HR444_3.out) | (with_reducible refine Kd.C_alloc ?_ _) | (with_reducible refine Kd.C_drewN ?_ _) | (with_reducible refine Kd.C_drew ?_) | exact HR444_3.out)⟩, ⟨by repeat (first | (with_reducible exact HR444_4.out) | (with_reducible refine Kd.C_alloc ?_ _) | (with_reducible refine Kd.C_drewN ?_ _) | (with_reducible refine Kd.C_drew ?_) | exact HR444_4.out)⟩, ⟨mH⟩⟩
     case rest =>
      clear HC38
      try clear c1
      try clear c2
      try clear p2
      try clear c3
      try clear c4
      try clear p4
      try clear q4k23
      try clear hx4
      try clear p6
      try clear c14
      try clear c24
      try clear c24b0
      try clear c25
      try clear c25b0
      try clear c26
      try clear c27
      try clear c28
      try clear c28b0
      try clear c31
      try clear c32
      try clear c33
      try clear c34
      try clear c35
      try clear c37
      try clear c39
      try clear hx444_0
      try clear hx444_1
      try clear hx444_2
      try clear hx444_3
      try clear hx444_4
      try clear hx445_0
      try clear hx445_1
      try clear hx445_2
      try clear hx445_3
      try clear hx445_4
      try clear hx450_0
      try clear hx450_1
      try clear hx450_2
      try clear hx450_3
      try clear hx450_4
      try clear p444
      try clear p445
      try clear p450
      try clear q444
      try clear q445
      try clear q450
      obtain ⟨kq, x99_37, rfl, HA, HJ37, HO_7, HO_433000, HO_441000, HO_441001, BK432, BK440, HR444_3, HR444_4, HB⟩ := hcut
      cases kq with
      | zero => exact absurd HA.out (by simp [clinkerlaw08_LiveData.j4])
      | succ kj37 =>
       have H := HA.out
       clear HA
       simp only [clinkerlaw08_LiveData.j4] at H
       by_cases c44 : x99_37 = true
       case pos =>
        subst c44
        have H1 : (some false) = some r := by rw [if_pos rfl] at H; exact H
        clear H
        have H := H1
        clear H1
        obtain rfl := Option.some.inj H
        go_wp2
        go_ret
        exact ⟨by first | rfl | (simp [errW_none, errW_some] <;> rfl) | (simp [*, errW_none, errW_some] <;> rfl), by repeat (first | (with_reducible first | exact HB.out | apply lA | apply lN | apply lD | refine lS ?_ GE432.out | refine lS ?_ GE440.out) | exact HB.out)⟩
       replace c44 := Bool.eq_false_iff.mpr c44
       subst c44
       have H1 : (if x9_2 = true then (clinkerlaw08_LiveData.l0 kj37 true t441 (wrap64 (x8_1 + 1)) t433 t436) else (if 0 ≤ x8_1 then (if x8_1 < (t441.length : Int) then ((live_Says.f t433 t436 ((rd_T44 t441 x8_1).f0)).bind fun t453 => (if (t453.length : Int) > 0 then (some false) else (clinkerlaw08_LiveData.l0 kj37 true t441 (wrap64 (x8_1 + 1)) t433 t436))) else (none)) else (none))) = some r := by rw [if_neg (show ¬ (false = true) by decide)] at H; exact H
       clear H
       have H := H1
       clear H1
       by_cases c45 : x9_2 = true
       case pos =>
        subst c45
        have H1 : (clinkerlaw08_LiveData.l0 kj37 true t441 (wrap64 (x8_1 + 1)) t433 t436) = some r := by rw [if_pos rfl] at H; exact H
        clear H
        have H := H1
        clear H1
        have H' := Aside0.mk H
        clear H
        try go_wp2
        replace HO_7 := Aside0.mk (Kd.N_drew HO_7.out)
        replace HO_433000 := Aside0.mk (vD HO_433000.out)
        replace HO_441000 := Aside0.mk (Kd.R_drew HO_441000.out)
        replace HO_441001 := Aside0.mk (Kd.R_drew HO_441001.out)
        replace BK432 := Aside0.mk (bD BK432.out)
        replace BK440 := Aside0.mk (bD BK440.out)
        replace HR444_3 := Aside0.mk (Kd.C_drew HR444_3.out)
        replace HR444_4 := Aside0.mk (Kd.C_drew HR444_4.out)
        replace HB := Aside0.mk (lD HB.out)
        refine start_ (n := 13) (S := fun w' => True) (ds := []) q3k23 (by kernel_rfl) rfl rfl trivial (fun hHeld => ?_); refine with_tabW clinkerlaw08_LiveData.tab25 clinkerlaw08_LiveData.bits25 (fun HT_ HW_ => ?_)
        generalize wc.drew = w46 at HO_7 HO_433000 HO_441000 HO_441001 BK432 BK440 HR444_3 HR444_4 HB hHeld ⊢
        refine pa 0 (some 100) ?_
        refine pa 1 (some 101) ?_
        refine pa 2 (some 102) ?_
        refine pc 3 (some 103) ?_
        refine pc 4 (some 104) ?_
        refine pc 5 (some 105) ?_
        refine pc 6 (some 106) ?_
        refine pc 7 (some 107) ?_
        refine pc 8 (some 108) ?_
        refine pc 9 (some 109) ?_
        refine pc 10 (some 110) ?_
        refine pc 11 (some 111) ?_
        refine pa 12 (some 112) ?_
        refine done_ (done_of HT_.out (by kernel_rfl)) ?_
        try go_wp2
        go_roundg kj37
        case measure => have := HK1.out; have := HK2.out; have := HJ37.out; omega
        case rel => exact ⟨(wrap64 (x8_1 + 1)), (by first | rfl | (simp; done) | (simp [*]; done)), H', ⟨by have := HK1.out; have := HK2.out; have := HJ37.out; omega⟩, ⟨mN HO_7.out⟩, ⟨mV HO_433000.out⟩, ⟨mR HO_441000.out⟩, ⟨mR HO_441001.out⟩, ⟨mB BK432.out⟩, ⟨mB BK440.out⟩, ⟨mH⟩⟩
       replace c45 := Bool.eq_false_iff.mpr c45
       subst c45
       have H1 : (if 0 ≤ x8_1 then (if x8_1 < (t441.length : Int) then ((live_Says.f t433 t436 ((rd_T44 t441 x8_1).f0)).bind fun t453 => (if (t453.length : Int) > 0 then (some false) else (clinkerlaw08_LiveData.l0 kj37 true t441 (wrap64 (x8_1 + 1)) t433 t436))) else (none)) else (none)) = some r := by rw [if_neg (show ¬ (false = true) by decide)] at H; exact H
       clear H
       have H := H1
       clear H1
       by_cases c47 : 0 ≤ x8_1
       case neg =>
        rw [if_neg c47] at H
        exact absurd H (by simp)
       rw [if_pos c47] at H
       have c47b0 : decide (0 ≤ x8_1) = true := decide_eq_true c47
       clear c47
       by_cases c48 : x8_1 < (t441.length : Int)
       case neg =>
        rw [if_neg c48] at H
        exact absurd H (by simp)
       rw [if_pos c48] at H
       have c48b0 : decide (x8_1 < (t441.length : Int)) = true := decide_eq_true c48
       clear c48
       replace H := Option.bind_eq_some_iff.mp H
       obtain ⟨t453, A490, H⟩ := H
       replace H : (if (t453.length : Int) > 0 then (some false) else (clinkerlaw08_LiveData.l0 kj37 true t441 (wrap64 (x8_1 + 1)) t433 t436)) = some r := H
       have A49 := Aside0.mk A490
       clear A490
       by_cases c50 : (t453.length : Int) > 0
       case pos =>
        rw [if_pos c50] at H
        have c50b0 : decide (0 < (t453.length : Int)) = true := decide_eq_true c50
        have c50b1 : decide (0 < t453.length) = true := decide_eq_true (by omega)
        clear c50
        obtain rfl := Option.some.inj H
        try go_wp2
        replace HO_7 := Aside0.mk (Kd.N_drew HO_7.out)
        replace HO_433000 := Aside0.mk (vD HO_433000.out)
        replace HO_441000 := Aside0.mk (Kd.R_drew HO_441000.out)
        replace HO_441001 := Aside0.mk (Kd.R_drew HO_441001.out)
        replace BK432 := Aside0.mk (bD BK432.out)
        replace BK440 := Aside0.mk (bD BK440.out)
        replace HR444_3 := Aside0.mk (Kd.C_drew HR444_3.out)
        replace HR444_4 := Aside0.mk (Kd.C_drew HR444_4.out)
        replace HB := Aside0.mk (lD HB.out)
        have p452 : 0 ≤ (x8_1 : Int) := of_decide_eq_true (by first | (with_reducible assumption) | assumption)
        have q452 : x8_1 < (t441.length : Int) := of_decide_eq_true (by first | (with_reducible assumption) | assumption)
        obtain ⟨ad452, A452_3, c452_3, A452_4, c452_4, e452, hx452_0, hx452_1, hx452_2, hx452_3, hx452_4, hl452_3, hi452_3, hl452_4, hi452_4⟩ := at_T44 (Kd.N_reads' HO_7.out).2.2 x8_1 p452 q452
        obtain rfl : ad444 = ad452 := (by injection e452)
        obtain ⟨ce452, hce452, hMe452, hcc452⟩ := Kd.N_get HO_7.out z44 x8_1 p452 (by first | exact q452 | exact of_decide_eq_true (by first | (with_reducible assumption) | assumption) | (have e_ := (Kd.N_reads' HO_7.out).1; omega))
        obtain ⟨ua452_3, uc452_3, ua452_4, uc452_4, rfl, ul452_3, ge452_3, ul452_4, ge452_4⟩ := k44_openF hMe452
        have hv452_3 := hcc452 3 _ rfl
        rw [add_field _ _ 3 (by omega)] at hv452_3
        replace hv452_3 := Option.some.inj (hv452_3.symm.trans hx452_3)
        injection hv452_3 with hva_ hvn_ hvc_
        rw [hva_] at ge452_3
        rw [hvc_] at ul452_3
        have HL452_3 := Aside0.mk (show Kd.V (Kd.int .i64) 3 _ w.heap.size _ _ ((rd_T44 t441 x8_1).f1.f2) from Kd.V_mk ul452_3 ge452_3)
        clear hva_ hvn_ hvc_ ge452_3 ul452_3
        have hv452_4 := hcc452 4 _ rfl
        rw [add_field _ _ 4 (by omega)] at hv452_4
        replace hv452_4 := Option.some.inj (hv452_4.symm.trans hx452_4)
        injection hv452_4 with hva_ hvn_ hvc_
        rw [hva_] at ge452_4
        rw [hvc_] at ul452_4
        have HL452_4 := Aside0.mk (show Kd.V (Kd.int .i64) 3 _ w.heap.size _ _ ((rd_T44 t441 x8_1).f1.f3) from Kd.V_mk ul452_4 ge452_4)
        clear hva_ hvn_ hvc_ ge452_4 ul452_4
        clear hcc452 hce452
        have HR452_3 := Aside0.mk hi452_3
        have HC452_3 := Aside0.mk hl452_3
        clear hi452_3 hl452_3
        have HR452_4 := Aside0.mk hi452_4
        have HC452_4 := Aside0.mk hl452_4
        clear hi452_4 hl452_4
        replace p452 := eq_true p452
        replace q452 := eq_true q452
        refine start_ (n := 13) (S := fun w' => w'.cell? ⟨gb440, 0, none⟩ = some (.slice Ao14 t433.length co14) ∧ w'.cell? ⟨gb440, 1, none⟩ = some (.slice Ao17 t436.length co17) ∧ w'.cell? (ad444.add ((x8_1).toNat * 5)) = some (.int .i64 ((rd_T44 t441 x8_1).f0)) ∧ w'.cell? ⟨(ad444.add ((x8_1).toNat * 5)).block, (ad444.add ((x8_1).toNat * 5)).off + 1, none⟩ = some (.int .i64 ((rd_T44 t441 x8_1).f1.f0)) ∧ w'.cell? ⟨(ad444.add ((x8_1).toNat * 5)).block, (ad444.add ((x8_1).toNat * 5)).off + 2, none⟩ = some (.int .i64 ((rd_T44 t441 x8_1).f1.f1)) ∧ w'.cell? ⟨(ad444.add ((x8_1).toNat * 5)).block, (ad444.add ((x8_1).toNat * 5)).off + 3, none⟩ = some (.slice A452_3 ((rd_T44 t441 x8_1).f1.f2).length c452_3) ∧ w'.cell? ⟨(ad444.add ((x8_1).toNat * 5)).block, (ad444.add ((x8_1).toNat * 5)).off + 4, none⟩ = some (.slice A452_4 ((rd_T44 t441 x8_1).f1.f3).length c452_4)) (ds := []) q3k23 (by kernel_rfl) rfl rfl ⟨(blk_cell BK440.out 0).trans rfl, (blk_cell BK440.out 1).trans rfl, hx452_0, hx452_1, hx452_2, hx452_3, hx452_4⟩ (fun hHeld => ?_); refine with_tabW clinkerlaw08_LiveData.tab25 clinkerlaw08_LiveData.bits25 (fun HT_ HW_ => ?_)
        generalize wc.drew = w51 at HO_7 HO_433000 HO_441000 HO_441001 BK432 BK440 HR444_3 HR444_4 HB HL452_3 HL452_4 HR452_3 HR452_4 hx452_0 hx452_1 hx452_2 hx452_3 hx452_4 hHeld ⊢
        refine pa 0 (some 100) ?_
        refine pa 1 (some 101) ?_
        refine pa 2 (some 102) ?_
        refine pa 4 (some 104) ?_
        refine pa 5 (some 105) ?_
        refine pa 6 (some 106) ?_
        refine pa 7 (some 107) ?_
        refine ta 3 (some 103) hHeld ?_
        refine ta 8 (some 108) hHeld ?_
        refine one_ (i := 9) (N := some 109) q4k23 rfl rfl (one_of HT_.out (by kernel_rfl)) (by decide) (fun K hK => ?_)
        refine goes_ Try.func16 (by kernel_rfl) rfl #[.agg #[.slice Ao14 t433.length co14, .slice Ao17 t436.length co17], .int .i64 ((rd_T44 t441 x8_1).f0)] (by rfl) rfl rfl (by (try simp only [List.map_toArray, List.map_cons, List.map_nil]); first | done | rfl | (simp only [List.length_drop, List.length_take]; rfl)) ?_
        with_reducible refine (live_Says.calls _ _ t433 _ _ t436 ((rd_T44 t441 x8_1).f0) t453 _ ?side1 ?side2 ?side3 ?side4 A49.out).mono ?_
        (case side1 => repeat (first | exact (Kd.R_reads' HO_441000.out).2.2 | (with_reducible refine Kd.C_alloc ?_ _) | (with_reducible refine Kd.C_drewN ?_ _) | (with_reducible refine Kd.C_drew ?_)))
        (case side2 => exact (Kd.R_reads' HO_441000.out).2.1)
        (case side3 => repeat (first | exact (Kd.R_reads' HO_441001.out).2.2 | (with_reducible refine Kd.C_alloc ?_ _) | (with_reducible refine Kd.C_drewN ?_ _) | (with_reducible refine Kd.C_drew ?_)))
        (case side4 => exact (Kd.R_reads' HO_441001.out).2.1)
        rintro e w52 ⟨v454, rfl, ho0, hb⟩
        have HS2_ := (hb.cell (World.block_lt_of_cell? _ _ (hHeld.2.2.1))).trans (hHeld.2.2.1)
        have HS3_ := (hb.cell (World.block_lt_of_cell? _ _ (hHeld.2.2.2.1))).trans (hHeld.2.2.2.1)
        have HS4_ := (hb.cell (World.block_lt_of_cell? _ _ (hHeld.2.2.2.2.1))).trans (hHeld.2.2.2.2.1)
        have HS5_ := (hb.cell (World.block_lt_of_cell? _ _ (hHeld.2.2.2.2.2.1))).trans (hHeld.2.2.2.2.2.1)
        have HS6_ := (hb.cell (World.block_lt_of_cell? _ _ (hHeld.2.2.2.2.2.2))).trans (hHeld.2.2.2.2.2.2)
        refine ⟨_, rfl, ?_⟩
        replace HO_7 := Aside0.mk (Kd.N_elder' (mN HO_7.out) (Kd.R_base ho0) hb)
        replace HO_433000 := Aside0.mk (Kd.V_elder' (mV HO_433000.out) (Kd.R_base ho0) hb)
        replace HL452_3 := Aside0.mk (Kd.V_elder' (mV HL452_3.out) (Kd.R_base ho0) hb)
        replace HL452_4 := Aside0.mk (Kd.V_elder' (mV HL452_4.out) (Kd.R_base ho0) hb)
        have HO455 := Aside0.mk (Kd.R_lower (Kd.R_new' (Kd.R_new' ho0 (Kd.R_lt (mR HO_441000.out))) (Kd.R_lt (mR HO_441001.out))) bsz)
        replace HO_441000 := Aside0.mk (Kd.R_elder' (mR HO_441000.out) (Kd.R_base ho0) hb)
        replace HO_441001 := Aside0.mk (Kd.R_elder' (mR HO_441001.out) (Kd.R_base ho0) hb)
        replace BK432 := Aside0.mk (bb BK432.out hb)
        replace BK440 := Aside0.mk (bb BK440.out hb)
        replace HR444_3 := Aside0.mk (Kd.C_below (by repeat (first | (with_reducible exact HR444_3.out) | (with_reducible refine Kd.C_alloc ?_ _) | (with_reducible refine Kd.C_drewN ?_ _) | (with_reducible refine Kd.C_drew ?_) | exact HR444_3.out)) hb)
        replace HR444_4 := Aside0.mk (Kd.C_below (by repeat (first | (with_reducible exact HR444_4.out) | (with_reducible refine Kd.C_alloc ?_ _) | (with_reducible refine Kd.C_drewN ?_ _) | (with_reducible refine Kd.C_drew ?_) | exact HR444_4.out)) hb)
        replace HR452_3 := Aside0.mk (Kd.C_below (by repeat (first | (with_reducible exact HR452_3.out) | (with_reducible refine Kd.C_alloc ?_ _) | (with_reducible refine Kd.C_drewN ?_ _) | (with_reducible refine Kd.C_drew ?_) | exact HR452_3.out)) hb)
        replace HR452_4 := Aside0.mk (Kd.C_below (by repeat (first | (with_reducible exact HR452_4.out) | (with_reducible refine Kd.C_alloc ?_ _) | (with_reducible refine Kd.C_drewN ?_ _) | (with_reducible refine Kd.C_drew ?_) | exact HR452_4.out)) hb)
        replace HB := Aside0.mk (bst hb)
        (try clear hb)
        (try clear hb2)
        (try clear hk)
        (try clear hi)
        (try clear ho0)
        obtain ⟨Ao53, co53, eo53⟩ := Kd.R_slice HO455.out
        (first | subst eo53 | (injection eo53 with f1_ f2_ f3_; have f4_ := f1_.symm; have f5_ := f3_.symm; clear f1_ f2_ f3_; subst f4_; subst f5_))
        refine hK.out _ _ ⟨(blk_cell BK440.out 0).trans rfl, (blk_cell BK440.out 1).trans rfl, HS2_, HS3_, HS4_, HS5_, HS6_⟩ (fun hHeld => ?_)
        clear hK K
        refine na (some 109) ?_
        refine pa 10 (some 110) ?_
        refine pa 11 (some 111) ?_
        refine pa 12 (some 112) ?_
        refine done_ (done_of HT_.out (by kernel_rfl)) ?_
        try go_wp2
        go_ret
        exact ⟨by first | rfl | (simp [errW_none, errW_some] <;> rfl) | (simp [*, errW_none, errW_some] <;> rfl), by repeat (first | (with_reducible first | exact HB.out | apply lA | apply lN | apply lD | refine lS ?_ GE432.out | refine lS ?_ GE440.out) | exact HB.out)⟩
       rw [if_neg c50] at H
       have c50b0 : decide (0 < (t453.length : Int)) = false := decide_eq_false c50
       have c50b1 : decide (0 < t453.length) = false := decide_eq_false (by omega)
       clear c50
       have H' := Aside0.mk H
       clear H
       try go_wp2
       replace HO_7 := Aside0.mk (Kd.N_drew HO_7.out)
       replace HO_433000 := Aside0.mk (vD HO_433000.out)
       replace HO_441000 := Aside0.mk (Kd.R_drew HO_441000.out)
       replace HO_441001 := Aside0.mk (Kd.R_drew HO_441001.out)
       replace BK432 := Aside0.mk (bD BK432.out)
       replace BK440 := Aside0.mk (bD BK440.out)
       replace HR444_3 := Aside0.mk (Kd.C_drew HR444_3.out)
       replace HR444_4 := Aside0.mk (Kd.C_drew HR444_4.out)
       replace HB := Aside0.mk (lD HB.out)
       have p452 : 0 ≤ (x8_1 : Int) := of_decide_eq_true (by first | (with_reducible assumption) | assumption)
       have q452 : x8_1 < (t441.length : Int) := of_decide_eq_true (by first | (with_reducible assumption) | assumption)
       obtain ⟨ad452, A452_3, c452_3, A452_4, c452_4, e452, hx452_0, hx452_1, hx452_2, hx452_3, hx452_4, hl452_3, hi452_3, hl452_4, hi452_4⟩ := at_T44 (Kd.N_reads' HO_7.out).2.2 x8_1 p452 q452
       obtain rfl : ad444 = ad452 := (by injection e452)
       obtain ⟨ce452, hce452, hMe452, hcc452⟩ := Kd.N_get HO_7.out z44 x8_1 p452 (by first | exact q452 | exact of_decide_eq_true (by first | (with_reducible assumption) | assumption) | (have e_ := (Kd.N_reads' HO_7.out).1; omega))
       obtain ⟨ua452_3, uc452_3, ua452_4, uc452_4, rfl, ul452_3, ge452_3, ul452_4, ge452_4⟩ := k44_openF hMe452
       have hv452_3 := hcc452 3 _ rfl
       rw [add_field _ _ 3 (by omega)] at hv452_3
       replace hv452_3 := Option.some.inj (hv452_3.symm.trans hx452_3)
       injection hv452_3 with hva_ hvn_ hvc_
       rw [hva_] at ge452_3
       rw [hvc_] at ul452_3
       have HL452_3 := Aside0.mk (show Kd.V (Kd.int .i64) 3 _ w.heap.size _ _ ((rd_T44 t441 x8_1).f1.f2) from Kd.V_mk ul452_3 ge452_3)
       clear hva_ hvn_ hvc_ ge452_3 ul452_3
       have hv452_4 := hcc452 4 _ rfl
       rw [add_field _ _ 4 (by omega)] at hv452_4
       replace hv452_4 := Option.some.inj (hv452_4.symm.trans hx452_4)
       injection hv452_4 with hva_ hvn_ hvc_
       rw [hva_] at ge452_4
       rw [hvc_] at ul452_4
       have HL452_4 := Aside0.mk (show Kd.V (Kd.int .i64) 3 _ w.heap.size _ _ ((rd_T44 t441 x8_1).f1.f3) from Kd.V_mk ul452_4 ge452_4)
       clear hva_ hvn_ hvc_ ge452_4 ul452_4
       clear hcc452 hce452
       have HR452_3 := Aside0.mk hi452_3
       have HC452_3 := Aside0.mk hl452_3
       clear hi452_3 hl452_3
       have HR452_4 := Aside0.mk hi452_4
       have HC452_4 := Aside0.mk hl452_4
       clear hi452_4 hl452_4
       replace p452 := eq_true p452
       replace q452 := eq_true q452
       refine start_ (n := 13) (S := fun w' => w'.cell? ⟨gb440, 0, none⟩ = some (.slice Ao14 t433.length co14) ∧ w'.cell? ⟨gb440, 1, none⟩ = some (.slice Ao17 t436.length co17) ∧ w'.cell? (ad444.add ((x8_1).toNat * 5)) = some (.int .i64 ((rd_T44 t441 x8_1).f0)) ∧ w'.cell? ⟨(ad444.add ((x8_1).toNat * 5)).block, (ad444.add ((x8_1).toNat * 5)).off + 1, none⟩ = some (.int .i64 ((rd_T44 t441 x8_1).f1.f0)) ∧ w'.cell? ⟨(ad444.add ((x8_1).toNat * 5)).block, (ad444.add ((x8_1).toNat * 5)).off + 2, none⟩ = some (.int .i64 ((rd_T44 t441 x8_1).f1.f1)) ∧ w'.cell? ⟨(ad444.add ((x8_1).toNat * 5)).block, (ad444.add ((x8_1).toNat * 5)).off + 3, none⟩ = some (.slice A452_3 ((rd_T44 t441 x8_1).f1.f2).length c452_3) ∧ w'.cell? ⟨(ad444.add ((x8_1).toNat * 5)).block, (ad444.add ((x8_1).toNat * 5)).off + 4, none⟩ = some (.slice A452_4 ((rd_T44 t441 x8_1).f1.f3).length c452_4)) (ds := []) q3k23 (by kernel_rfl) rfl rfl ⟨(blk_cell BK440.out 0).trans rfl, (blk_cell BK440.out 1).trans rfl, hx452_0, hx452_1, hx452_2, hx452_3, hx452_4⟩ (fun hHeld => ?_); refine with_tabW clinkerlaw08_LiveData.tab25 clinkerlaw08_LiveData.bits25 (fun HT_ HW_ => ?_)
       generalize wc.drew = w54 at HO_7 HO_433000 HO_441000 HO_441001 BK432 BK440 HR444_3 HR444_4 HB HL452_3 HL452_4 HR452_3 HR452_4 hx452_0 hx452_1 hx452_2 hx452_3 hx452_4 hHeld ⊢
       refine pa 0 (some 100) ?_
       refine pa 1 (some 101) ?_
       refine pa 2 (some 102) ?_
       refine pa 4 (some 104) ?_
       refine pa 5 (some 105) ?_
       refine pa 6 (some 106) ?_
       refine pa 7 (some 107) ?_
       refine ta 3 (some 103) hHeld ?_
       refine ta 8 (some 108) hHeld ?_
       refine one_ (i := 9) (N := some 109) q4k23 rfl rfl (one_of HT_.out (by kernel_rfl)) (by decide) (fun K hK => ?_)
       refine goes_ Try.func16 (by kernel_rfl) rfl #[.agg #[.slice Ao14 t433.length co14, .slice Ao17 t436.length co17], .int .i64 ((rd_T44 t441 x8_1).f0)] (by rfl) rfl rfl (by (try simp only [List.map_toArray, List.map_cons, List.map_nil]); first | done | rfl | (simp only [List.length_drop, List.length_take]; rfl)) ?_
       with_reducible refine (live_Says.calls _ _ t433 _ _ t436 ((rd_T44 t441 x8_1).f0) t453 _ ?side1 ?side2 ?side3 ?side4 A49.out).mono ?_
       (case side1 => repeat (first | exact (Kd.R_reads' HO_441000.out).2.2 | (with_reducible refine Kd.C_alloc ?_ _) | (with_reducible refine Kd.C_drewN ?_ _) | (with_reducible refine Kd.C_drew ?_)))
       (case side2 => exact (Kd.R_reads' HO_441000.out).2.1)
       (case side3 => repeat (first | exact (Kd.R_reads' HO_441001.out).2.2 | (with_reducible refine Kd.C_alloc ?_ _) | (with_reducible refine Kd.C_drewN ?_ _) | (with_reducible refine Kd.C_drew ?_)))
       (case side4 => exact (Kd.R_reads' HO_441001.out).2.1)
       rintro e w55 ⟨v454, rfl, ho0, hb⟩
       have HS2_ := (hb.cell (World.block_lt_of_cell? _ _ (hHeld.2.2.1))).trans (hHeld.2.2.1)
       have HS3_ := (hb.cell (World.block_lt_of_cell? _ _ (hHeld.2.2.2.1))).trans (hHeld.2.2.2.1)
       have HS4_ := (hb.cell (World.block_lt_of_cell? _ _ (hHeld.2.2.2.2.1))).trans (hHeld.2.2.2.2.1)
       have HS5_ := (hb.cell (World.block_lt_of_cell? _ _ (hHeld.2.2.2.2.2.1))).trans (hHeld.2.2.2.2.2.1)
       have HS6_ := (hb.cell (World.block_lt_of_cell? _ _ (hHeld.2.2.2.2.2.2))).trans (hHeld.2.2.2.2.2.2)
       refine ⟨_, rfl, ?_⟩
       replace HO_7 := Aside0.mk (Kd.N_elder' (mN HO_7.out) (Kd.R_base ho0) hb)
       replace HO_433000 := Aside0.mk (Kd.V_elder' (mV HO_433000.out) (Kd.R_base ho0) hb)
       replace HL452_3 := Aside0.mk (Kd.V_elder' (mV HL452_3.out) (Kd.R_base ho0) hb)
       replace HL452_4 := Aside0.mk (Kd.V_elder' (mV HL452_4.out) (Kd.R_base ho0) hb)
       have HO455 := Aside0.mk (Kd.R_lower (Kd.R_new' (Kd.R_new' ho0 (Kd.R_lt (mR HO_441000.out))) (Kd.R_lt (mR HO_441001.out))) bsz)
       replace HO_441000 := Aside0.mk (Kd.R_elder' (mR HO_441000.out) (Kd.R_base ho0) hb)
       replace HO_441001 := Aside0.mk (Kd.R_elder' (mR HO_441001.out) (Kd.R_base ho0) hb)
       replace BK432 := Aside0.mk (bb BK432.out hb)
       replace BK440 := Aside0.mk (bb BK440.out hb)
       replace HR444_3 := Aside0.mk (Kd.C_below (by repeat (first | (with_reducible exact HR444_3.out) | (with_reducible refine Kd.C_alloc ?_ _) | (with_reducible refine Kd.C_drewN ?_ _) | (with_reducible refine Kd.C_drew ?_) | exact HR444_3.out)) hb)
       replace HR444_4 := Aside0.mk (Kd.C_below (by repeat (first | (with_reducible exact HR444_4.out) | (with_reducible refine Kd.C_alloc ?_ _) | (with_reducible refine Kd.C_drewN ?_ _) | (with_reducible refine Kd.C_drew ?_) | exact HR444_4.out)) hb)
       replace HR452_3 := Aside0.mk (Kd.C_below (by repeat (first | (with_reducible exact HR452_3.out) | (with_reducible refine Kd.C_alloc ?_ _) | (with_reducible refine Kd.C_drewN ?_ _) | (with_reducible refine Kd.C_drew ?_) | exact HR452_3.out)) hb)
       replace HR452_4 := Aside0.mk (Kd.C_below (by repeat (first | (with_reducible exact HR452_4.out) | (with_reducible refine Kd.C_alloc ?_ _) | (with_reducible refine Kd.C_drewN ?_ _) | (with_reducible refine Kd.C_drew ?_) | exact HR452_4.out)) hb)
       replace HB := Aside0.mk (bst hb)
       (try clear hb)
       (try clear hb2)
       (try clear hk)
       (try clear hi)
       (try clear ho0)
       obtain ⟨Ao56, co56, eo56⟩ := Kd.R_slice HO455.out
       (first | subst eo56 | (injection eo56 with f1_ f2_ f3_; have f4_ := f1_.symm; have f5_ := f3_.symm; clear f1_ f2_ f3_; subst f4_; subst f5_))
       refine hK.out _ _ ⟨(blk_cell BK440.out 0).trans rfl, (blk_cell BK440.out 1).trans rfl, HS2_, HS3_, HS4_, HS5_, HS6_⟩ (fun hHeld => ?_)
       clear hK K
       refine na (some 109) ?_
       refine pa 10 (some 110) ?_
       refine pa 11 (some 111) ?_
       refine pa 12 (some 112) ?_
       refine done_ (done_of HT_.out (by kernel_rfl)) ?_
       try go_wp2
       go_roundg kj37
       case measure => have := HK1.out; have := HK2.out; have := HJ37.out; omega
       case rel => exact ⟨(wrap64 (x8_1 + 1)), (by first | rfl | (simp; done) | (simp [*]; done)), H', ⟨by have := HK1.out; have := HK2.out; have := HJ37.out; omega⟩, ⟨by (with_reducible repeat (first | apply Kd.N_alloc | apply Kd.N_drewN | apply Kd.N_drew)); exact Kd.N_mono HO_7.out (fun _ hk => ⟨hk.1.1, ⟨hk.1.2.1, ⟨hk.1.2.2.1, hk.1.2.2.2⟩⟩⟩)⟩, ⟨by (with_reducible repeat (first | apply vA | apply vN | apply vD)); exact Kd.V_mono HO_433000.out (fun _ hk => ⟨hk.1.1, ⟨hk.1.2.1, ⟨hk.1.2.2.1, ⟨hk.1.2.2.2.1, hk.1.2.2.2.2⟩⟩⟩⟩)⟩, ⟨by (with_reducible repeat (first | apply rA | apply rN | apply rD)); exact Kd.R_mono HO_441000.out (fun _ hk => hk.1)⟩, ⟨by (with_reducible repeat (first | apply rA | apply rN | apply rD)); exact Kd.R_mono HO_441001.out (fun _ hk => hk.1)⟩, ⟨mB BK432.out⟩, ⟨mB BK440.out⟩, ⟨mH⟩⟩

/-- THE ONE PURE STATEMENT of clinkerlaw08_LiveData: yours. -/
def clinkerlaw08_LiveData.Pure : Prop := ∀ (l0 : List Int), l0.length ≤ maxLen → l0.length * 2 ≤ 140737488351232 → (∀ x ∈ l0, (Lit.int .u16 x).wf = true) → ∃ k, clinkerlaw08_LiveData.f k l0 = some true
theorem clinkerlaw08_LiveData.walk (P : clinkerlaw08_LiveData.Pure) (a0 : Option Addr) (len0 cap0 : Nat) (z0 : List Int) (w : World) (w0 : (a0 = none ∧ len0 = 0 ∧ cap0 = 0 ∧ z0 = []) ∨ ∃ x, a0 = some x ∧ len0 ≤ cap0 ∧ cap0 ≤ maxLen ∧ z0.length = cap0 ∧ (∀ i, i < z0.length → w.cell? (x.add i) = some (.int .u16 (z0.getD i 0))) ∧ ∀ n ∈ z0, (Lit.int .u16 n).wf = true) (y0 : len0 * 2 ≤ 140737488351232) :
  Calls Try.prog 6 #[.slice a0 len0 cap0] w fun e w' => e = .returned (.bool true) ∧ Below w.heap.size w w' := by
 obtain ⟨l0, rfl, hr0, hm0, hw0, hc0⟩ := ReadsInt.ofRowC w0
 obtain ⟨k, h⟩ := P l0 hm0 y0 hw0
 refine (clinkerlaw08_LiveData.calls k _ _ l0 true w (Kd.C_of_reads (d := (0 : Int)) (h1 := fun _ => rfl) hr0) hc0 h).mono ?_
 rintro e w' ⟨rfl, hd⟩
 exact ⟨rfl, hd⟩

end Go.Proofs.Ytfolonajajideaa.PAll
