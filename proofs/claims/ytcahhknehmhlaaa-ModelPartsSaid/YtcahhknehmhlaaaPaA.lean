/- Written by a program of this session (wip/xp) out of the translation: functions in plain Lean, and proofs that the calls come to these. -/
import Derived.Test.YtcahhknehmhlaaaPAllx0
import Derived.Test.YtcahhknehmhlaaaPAllx4
import Derived.Test.YtcahhknehmhlaaaPAllx6
import Derived.Test.YtcahhknehmhlaaaPAllx7
import Derived.Test.YtcahhknehmhlaaaPAllx8
import Derived.Test.YtcahhknehmhlaaaPAllx16
import Derived.Test.YtcahhknehmhlaaaShort
namespace Go.Proofs.Ytcahhknehmhlaaa.PAll
open Go.RowKit Go.Proofs.YtcahhknehmhlaaaW.PrintWords Go.Proofs.YtcahhknehmhlaaaW.PrintLast Go.Proofs.YtcahhknehmhlaaaW.PrintMore
attribute [local go_sem] max2_int min2_int max_two min_two max_three min_three max_four min_four   -- for this text's walks alone
set_option linter.unusedVariables false
set_option linter.unusedSimpArgs false

/-! ### clinkerlaw13_ModelParts: function 7 -/
mutual
def clinkerlaw13_ModelParts.l0 : Nat → List (List Int) → Int → Bool → List ByteArray → Int → Option (Bool)
 | 0, _, _, _, _, _ => none
 | k + 1, x0, x1, x5, x6, x7 => if x7 < (x0.length : Int) then (clinkerlaw13_ModelParts.j1 k x0 x1 x5 x6 x7 (decide (x7 < 6))) else (clinkerlaw13_ModelParts.j1 k x0 x1 x5 x6 x7 false)
def clinkerlaw13_ModelParts.j1 : Nat → List (List Int) → Int → Bool → List ByteArray → Int → Bool → Option (Bool)
 | 0, _, _, _, _, _, _ => none
 | k + 1, x0, x1, x5, x6, x7, x27 => if x27 = true then (if 0 ≤ x7 then (if x7 < (x0.length : Int) then ((clinkerlaw13_Made.f (rd_L2 x0 x7)).bind fun bt382 => ((model_Part.f x6 bt382.1 bt382.2.1 bt382.2.2.1 bt382.2.2.2 (Int.tmod (wrap64 (x1)) 6)).bind fun t389 => ((model_Part.f x6 bt382.1 bt382.2.1 bt382.2.2.1 bt382.2.2.2 (wrap64 ((Int.tmod (wrap64 (x1)) 6) + 1))).bind fun t392 => ((model_Do.f x6 bt382.1 bt382.2.1 bt382.2.2.1 bt382.2.2.2).bind fun bt395 => (if (t389.length : Int) = 12 then (if (t392.length : Int) = 12 then (clinkerlaw13_ModelParts.j2 k x0 x1 x5 x6 x7 (Int.tmod (wrap64 (x1)) 6) t389 t392 bt395.1 ((bt395.1.length : Int) != 12) bt382.1 bt382.2.1 bt382.2.2.1 bt382.2.2.2 bt395.2.1 bt395.2.2) else (clinkerlaw13_ModelParts.j2 k x0 x1 x5 x6 x7 (Int.tmod (wrap64 (x1)) 6) t389 t392 bt395.1 true bt382.1 bt382.2.1 bt382.2.2.1 bt382.2.2.2 bt395.2.1 bt395.2.2)) else (clinkerlaw13_ModelParts.j2 k x0 x1 x5 x6 x7 (Int.tmod (wrap64 (x1)) 6) t389 t392 bt395.1 true bt382.1 bt382.2.1 bt382.2.2.1 bt382.2.2.2 bt395.2.1 bt395.2.2)))))) else (none)) else (none)) else (some x5)
def clinkerlaw13_ModelParts.j2 : Nat → List (List Int) → Int → Bool → List ByteArray → Int → Int → List ByteArray → List ByteArray → List ByteArray → Bool → Int → Int → Int → List ByteArray → Int → List ByteArray → Option (Bool)
 | 0, _, _, _, _, _, _, _, _, _, _, _, _, _, _, _, _ => none
 | k + 1, x0, x1, x5, x6, x7, x9, x10, x11, x12, x65, x389000, x389001, x389002, x389003, x403000, x403001 => if x65 = true then (some false) else (clinkerlaw13_ModelParts.l1 k x0 x1 x5 x6 x7 x9 x10 x11 x12 0 0 x389000 x389001 x389002 x389003 x403000 x403001)
def clinkerlaw13_ModelParts.l1 : Nat → List (List Int) → Int → Bool → List ByteArray → Int → Int → List ByteArray → List ByteArray → List ByteArray → Int → Int → Int → Int → Int → List ByteArray → Int → List ByteArray → Option (Bool)
 | 0, _, _, _, _, _, _, _, _, _, _, _, _, _, _, _, _, _ => none
 | k + 1, x0, x1, x5, x6, x7, x9, x10, x11, x12, x14, x15, x389000, x389001, x389002, x389003, x403000, x403001 => if x15 < 12 then (if 0 ≤ x15 then (if x15 < (x10.length : Int) then (if x15 < (x11.length : Int) then (if (rdOf ByteArray.empty x10 x15).toList = (rdOf ByteArray.empty x11 x15).toList then (if x15 = (wrap64 (x389001 + x9)) then (if x15 < (x6.length : Int) then (if (rdOf ByteArray.empty x10 x15).toList = (rdOf ByteArray.empty x6 x15).toList then (clinkerlaw13_ModelParts.l1 k x0 x1 x5 x6 x7 x9 x10 x11 x12 x14 (wrap64 (x15 + 1)) x389000 x389001 x389002 x389003 x403000 x403001) else (if x15 < (x12.length : Int) then (if (rdOf ByteArray.empty x10 x15).toList = (rdOf ByteArray.empty x12 x15).toList then (clinkerlaw13_ModelParts.l1 k x0 x1 x5 x6 x7 x9 x10 x11 x12 x14 (wrap64 (x15 + 1)) x389000 x389001 x389002 x389003 x403000 x403001) else (some false)) else (none))) else (none)) else (if x15 < (x6.length : Int) then (if (rdOf ByteArray.empty x10 x15).toList = (rdOf ByteArray.empty x6 x15).toList then (clinkerlaw13_ModelParts.l1 k x0 x1 x5 x6 x7 x9 x10 x11 x12 x14 (wrap64 (x15 + 1)) x389000 x389001 x389002 x389003 x403000 x403001) else (if x15 < (x12.length : Int) then (if (rdOf ByteArray.empty x10 x15).toList = (rdOf ByteArray.empty x12 x15).toList then (clinkerlaw13_ModelParts.l1 k x0 x1 x5 x6 x7 x9 x10 x11 x12 x14 (wrap64 (x15 + 1)) x389000 x389001 x389002 x389003 x403000 x403001) else (some false)) else (none))) else (none))) else (if x15 = (wrap64 (x389001 + x9)) then (if x15 < (x6.length : Int) then (if (rdOf ByteArray.empty x10 x15).toList = (rdOf ByteArray.empty x6 x15).toList then (clinkerlaw13_ModelParts.l1 k x0 x1 x5 x6 x7 x9 x10 x11 x12 (wrap64 (x14 + 1)) (wrap64 (x15 + 1)) x389000 x389001 x389002 x389003 x403000 x403001) else (if x15 < (x12.length : Int) then (if (rdOf ByteArray.empty x10 x15).toList = (rdOf ByteArray.empty x12 x15).toList then (clinkerlaw13_ModelParts.l1 k x0 x1 x5 x6 x7 x9 x10 x11 x12 (wrap64 (x14 + 1)) (wrap64 (x15 + 1)) x389000 x389001 x389002 x389003 x403000 x403001) else (some false)) else (none))) else (none)) else (some false))) else (none)) else (none)) else (none)) else (if x14 > 1 then (some false) else (if x403000 = 0 then (if x389000 = 1 then ((clinkerref13_Same.f k x12 x6).bind fun t421 => (if t421 = true then (clinkerlaw13_ModelParts.l0 k x0 x1 x5 x12 (wrap64 (x7 + 1))) else (some false))) else (if x389000 = 4 then ((clinkerref13_Same.f k x12 x6).bind fun t422 => (if t422 = true then (clinkerlaw13_ModelParts.l0 k x0 x1 x5 x12 (wrap64 (x7 + 1))) else (some false))) else (clinkerlaw13_ModelParts.l0 k x0 x1 x5 x12 (wrap64 (x7 + 1))))) else ((clinkerref13_Same.f k x12 x6).bind fun t423 => (if t423 = true then (if x389000 = 1 then ((clinkerref13_Same.f k x12 x6).bind fun t424 => (if t424 = true then (clinkerlaw13_ModelParts.l0 k x0 x1 x5 x12 (wrap64 (x7 + 1))) else (some false))) else (if x389000 = 4 then ((clinkerref13_Same.f k x12 x6).bind fun t425 => (if t425 = true then (clinkerlaw13_ModelParts.l0 k x0 x1 x5 x12 (wrap64 (x7 + 1))) else (some false))) else (clinkerlaw13_ModelParts.l0 k x0 x1 x5 x12 (wrap64 (x7 + 1))))) else (some false)))))
end
def clinkerlaw13_ModelParts.f (k : Nat) (l0 : List (List Int)) (a1 : Int) : Option (Bool) := (clinkerlaw13_awake.f k).bind fun t377 => (if t377 = true then ((model_New.f 12).bind fun t378 => (clinkerlaw13_ModelParts.l0 k l0 a1 t377 t378 0)) else (some false))
theorem clinkerlaw13_ModelParts.mono_l : ∀ k, (∀ y0 y1 y2 y3 y4, LeO (clinkerlaw13_ModelParts.l0 k y0 y1 y2 y3 y4) (clinkerlaw13_ModelParts.l0 (k + 1) y0 y1 y2 y3 y4)) ∧ (∀ y0 y1 y2 y3 y4 y5, LeO (clinkerlaw13_ModelParts.j1 k y0 y1 y2 y3 y4 y5) (clinkerlaw13_ModelParts.j1 (k + 1) y0 y1 y2 y3 y4 y5)) ∧ (∀ y0 y1 y2 y3 y4 y5 y6 y7 y8 y9 y10 y11 y12 y13 y14 y15, LeO (clinkerlaw13_ModelParts.j2 k y0 y1 y2 y3 y4 y5 y6 y7 y8 y9 y10 y11 y12 y13 y14 y15) (clinkerlaw13_ModelParts.j2 (k + 1) y0 y1 y2 y3 y4 y5 y6 y7 y8 y9 y10 y11 y12 y13 y14 y15)) ∧ (∀ y0 y1 y2 y3 y4 y5 y6 y7 y8 y9 y10 y11 y12 y13 y14 y15 y16, LeO (clinkerlaw13_ModelParts.l1 k y0 y1 y2 y3 y4 y5 y6 y7 y8 y9 y10 y11 y12 y13 y14 y15 y16) (clinkerlaw13_ModelParts.l1 (k + 1) y0 y1 y2 y3 y4 y5 y6 y7 y8 y9 y10 y11 y12 y13 y14 y15 y16))
 | 0 => ⟨fun _ _ _ _ _ r h => by simp [clinkerlaw13_ModelParts.l0] at h, fun _ _ _ _ _ _ r h => by simp [clinkerlaw13_ModelParts.j1] at h, fun _ _ _ _ _ _ _ _ _ _ _ _ _ _ _ _ r h => by simp [clinkerlaw13_ModelParts.j2] at h, fun _ _ _ _ _ _ _ _ _ _ _ _ _ _ _ _ _ r h => by simp [clinkerlaw13_ModelParts.l1] at h⟩
 | k + 1 => by
  obtain ⟨ih0, ih1, ih2, ih3⟩ := clinkerlaw13_ModelParts.mono_l k
  refine ⟨?_, ?_, ?_, ?_⟩
  ·
   intro y0 y1 y2 y3 y4
   unfold clinkerlaw13_ModelParts.l0
   repeat' first
   | (with_reducible exact ih0 _ _ _ _ _)
   | (with_reducible exact ih1 _ _ _ _ _ _)
   | (with_reducible exact ih2 _ _ _ _ _ _ _ _ _ _ _ _ _ _ _ _)
   | (with_reducible exact ih3 _ _ _ _ _ _ _ _ _ _ _ _ _ _ _ _ _)
   | (with_reducible exact clinkerlaw13_awake.mono _)
   | (with_reducible exact clinkerref13_Same.mono _ _ _)
   | (with_reducible exact LeO.refl _)
   | (with_reducible exact LeO.none _)
   | (with_reducible refine LeO.ite ?_ ?_)
   | (with_reducible refine LeO.bind ?_ (fun _ => ?_))
   | exact ih0 _ _ _ _ _
   | exact ih1 _ _ _ _ _ _
   | exact ih2 _ _ _ _ _ _ _ _ _ _ _ _ _ _ _ _
   | exact ih3 _ _ _ _ _ _ _ _ _ _ _ _ _ _ _ _ _
   | exact clinkerlaw13_awake.mono _
   | exact clinkerref13_Same.mono _ _ _
   | exact LeO.none _
   | refine LeO.ite ?_ ?_
   | refine LeO.bind ?_ (fun _ => ?_)
  ·
   intro y0 y1 y2 y3 y4 y5
   unfold clinkerlaw13_ModelParts.j1
   repeat' first
   | (with_reducible exact ih0 _ _ _ _ _)
   | (with_reducible exact ih1 _ _ _ _ _ _)
   | (with_reducible exact ih2 _ _ _ _ _ _ _ _ _ _ _ _ _ _ _ _)
   | (with_reducible exact ih3 _ _ _ _ _ _ _ _ _ _ _ _ _ _ _ _ _)
   | (with_reducible exact clinkerlaw13_awake.mono _)
   | (with_reducible exact clinkerref13_Same.mono _ _ _)
   | (with_reducible exact LeO.refl _)
   | (with_reducible exact LeO.none _)
   | (with_reducible refine LeO.ite ?_ ?_)
   | (with_reducible refine LeO.bind ?_ (fun _ => ?_))
   | exact ih0 _ _ _ _ _
   | exact ih1 _ _ _ _ _ _
   | exact ih2 _ _ _ _ _ _ _ _ _ _ _ _ _ _ _ _
   | exact ih3 _ _ _ _ _ _ _ _ _ _ _ _ _ _ _ _ _
   | exact clinkerlaw13_awake.mono _
   | exact clinkerref13_Same.mono _ _ _
   | exact LeO.none _
   | refine LeO.ite ?_ ?_
   | refine LeO.bind ?_ (fun _ => ?_)
  ·
   intro y0 y1 y2 y3 y4 y5 y6 y7 y8 y9 y10 y11 y12 y13 y14 y15
   unfold clinkerlaw13_ModelParts.j2
   repeat' first
   | (with_reducible exact ih0 _ _ _ _ _)
   | (with_reducible exact ih1 _ _ _ _ _ _)
   | (with_reducible exact ih2 _ _ _ _ _ _ _ _ _ _ _ _ _ _ _ _)
   | (with_reducible exact ih3 _ _ _ _ _ _ _ _ _ _ _ _ _ _ _ _ _)
   | (with_reducible exact clinkerlaw13_awake.mono _)
   | (with_reducible exact clinkerref13_Same.mono _ _ _)
   | (with_reducible exact LeO.refl _)
   | (with_reducible exact LeO.none _)
   | (with_reducible refine LeO.ite ?_ ?_)
   | (with_reducible refine LeO.bind ?_ (fun _ => ?_))
   | exact ih0 _ _ _ _ _
   | exact ih1 _ _ _ _ _ _
   | exact ih2 _ _ _ _ _ _ _ _ _ _ _ _ _ _ _ _
   | exact ih3 _ _ _ _ _ _ _ _ _ _ _ _ _ _ _ _ _
   | exact clinkerlaw13_awake.mono _
   | exact clinkerref13_Same.mono _ _ _
   | exact LeO.none _
   | refine LeO.ite ?_ ?_
   | refine LeO.bind ?_ (fun _ => ?_)
  ·
   intro y0 y1 y2 y3 y4 y5 y6 y7 y8 y9 y10 y11 y12 y13 y14 y15 y16
   unfold clinkerlaw13_ModelParts.l1
   repeat' first
   | (with_reducible exact ih0 _ _ _ _ _)
   | (with_reducible exact ih1 _ _ _ _ _ _)
   | (with_reducible exact ih2 _ _ _ _ _ _ _ _ _ _ _ _ _ _ _ _)
   | (with_reducible exact ih3 _ _ _ _ _ _ _ _ _ _ _ _ _ _ _ _ _)
   | (with_reducible exact clinkerlaw13_awake.mono _)
   | (with_reducible exact clinkerref13_Same.mono _ _ _)
   | (with_reducible exact LeO.refl _)
   | (with_reducible exact LeO.none _)
   | (with_reducible refine LeO.ite ?_ ?_)
   | (with_reducible refine LeO.bind ?_ (fun _ => ?_))
   | exact ih0 _ _ _ _ _
   | exact ih1 _ _ _ _ _ _
   | exact ih2 _ _ _ _ _ _ _ _ _ _ _ _ _ _ _ _
   | exact ih3 _ _ _ _ _ _ _ _ _ _ _ _ _ _ _ _ _
   | exact clinkerlaw13_awake.mono _
   | exact clinkerref13_Same.mono _ _ _
   | exact LeO.none _
   | refine LeO.ite ?_ ?_
   | refine LeO.bind ?_ (fun _ => ?_)
theorem clinkerlaw13_ModelParts.mono : ∀ a0 a1 k, LeO (clinkerlaw13_ModelParts.f k a0 a1) (clinkerlaw13_ModelParts.f (k + 1) a0 a1) := by
 intro a0 a1 k
 obtain ⟨ih0, ih1, ih2, ih3⟩ := clinkerlaw13_ModelParts.mono_l k
 unfold clinkerlaw13_ModelParts.f
 repeat' first
   | (with_reducible exact ih0 _ _ _ _ _)
   | (with_reducible exact ih1 _ _ _ _ _ _)
   | (with_reducible exact ih2 _ _ _ _ _ _ _ _ _ _ _ _ _ _ _ _)
   | (with_reducible exact ih3 _ _ _ _ _ _ _ _ _ _ _ _ _ _ _ _ _)
   | (with_reducible exact clinkerlaw13_awake.mono _)
   | (with_reducible exact clinkerref13_Same.mono _ _ _)
   | (with_reducible exact LeO.refl _)
   | (with_reducible exact LeO.none _)
   | (with_reducible refine LeO.ite ?_ ?_)
   | (with_reducible refine LeO.bind ?_ (fun _ => ?_))
   | exact ih0 _ _ _ _ _
   | exact ih1 _ _ _ _ _ _
   | exact ih2 _ _ _ _ _ _ _ _ _ _ _ _ _ _ _ _
   | exact ih3 _ _ _ _ _ _ _ _ _ _ _ _ _ _ _ _ _
   | exact clinkerlaw13_awake.mono _
   | exact clinkerref13_Same.mono _ _ _
   | exact LeO.none _
   | refine LeO.ite ?_ ?_
   | refine LeO.bind ?_ (fun _ => ?_)
def clinkerlaw13_ModelParts.T10 : Bool × List (List Nat × List Nat) := (true, [([], []), ([], []), ([], []), ([0, 1, 2], [0, 1, 2]), ([], []), ([], []), ([], []), ([6], [6]), ([4, 5, 7, 3], [4, 5, 7]), ([3, 8, 0, 1, 2, 3], [3]), ([8, 9, 0, 1, 2, 3, 4, 5, 6, 7, 8, 9], [8])])
def clinkerlaw13_ModelParts.B10 : List Nat := [0, 0, 0, 7, 0, 0, 0, 64, 255, 511, 1023]
theorem clinkerlaw13_ModelParts.tab10 : rtab .any (opsOf Try.f7 10) = clinkerlaw13_ModelParts.T10 := by kernel_rfl
theorem clinkerlaw13_ModelParts.bits10 : waitsOk clinkerlaw13_ModelParts.T10.2 clinkerlaw13_ModelParts.B10 = true := by kernel_rfl
def clinkerlaw13_ModelParts.T18 : Bool × List (List Nat × List Nat) := (true, [([], []), ([], []), ([0, 1], [0, 1]), ([2], [2]), ([], []), ([], []), ([4, 5], [4, 5]), ([6], [6]), ([3, 7], [3, 7])])
def clinkerlaw13_ModelParts.B18 : List Nat := [0, 0, 3, 7, 0, 0, 48, 112, 255]
theorem clinkerlaw13_ModelParts.tab18 : rtab .any (opsOf Try.f7 18) = clinkerlaw13_ModelParts.T18 := by kernel_rfl
theorem clinkerlaw13_ModelParts.bits18 : waitsOk clinkerlaw13_ModelParts.T18.2 clinkerlaw13_ModelParts.B18 = true := by kernel_rfl
def clinkerlaw13_ModelParts.T20 : Bool × List (List Nat × List Nat) := (true, [([], []), ([], []), ([1], [1]), ([], []), ([2, 3], [2, 3]), ([0, 4], [0, 4]), ([5], [5]), ([6], [6]), ([6], [6]), ([7, 8, 6], [6, 7, 8]), ([9, 6], [6, 9]), ([6], [6]), ([6], [6]), ([11, 12, 6], [6, 11, 12]), ([13, 6], [6, 13]), ([10, 14, 6], [6, 10, 14]), ([6, 15], [6, 15]), ([16, 6], [16]), ([17], [17]), ([17], [17]), ([18, 19, 17], [17, 18, 19]), ([20, 17], [17, 20]), ([17], [17]), ([17], [17]), ([22, 23, 17], [17, 22, 23]), ([24, 17], [17, 24]), ([21, 25, 17], [17, 21, 25]), ([26, 17, 17], [17, 26]), ([27], [27]), ([27], [27]), ([28, 29, 27], [27, 28, 29]), ([30, 27], [27, 30]), ([27], [27]), ([27], [27]), ([32, 33, 27], [27, 32, 33]), ([34, 27], [27, 34]), ([31, 35, 27], [27, 31, 35]), ([27, 36, 17], [17, 27, 36]), ([17, 37], [17, 37])])
def clinkerlaw13_ModelParts.B20 : List Nat := [0, 0, 2, 0, 14, 31, 63, 127, 127, 511, 1023, 127, 127, 6271, 14463, 32767, 65535, 131071, 262143, 262143, 1048575, 2097151, 262143, 262143, 12845055, 29622271, 67108863, 134217727, 268435455, 268435455, 1073741823, 2147483647, 268435455, 268435455, 13153337343, 30333206527, 68719476735, 137438953471, 274877906943]
theorem clinkerlaw13_ModelParts.tab20 : rtab .any (opsOf Try.f7 20) = clinkerlaw13_ModelParts.T20 := by kernel_rfl
theorem clinkerlaw13_ModelParts.bits20 : waitsOk clinkerlaw13_ModelParts.T20.2 clinkerlaw13_ModelParts.B20 = true := by kernel_rfl
abbrev q0k19 : Array Bool := #[false, false, false, false, false, false, false, false, false, false, false]
abbrev q1k19 : Array Bool := #[true, true, true, true, true, true, true, true, false, false, false]
abbrev q2k19 : Array Bool := #[true, true, true, true, true, true, true, true, true, false, false]
abbrev q3k19 : Array Bool := #[false, false, false, false, false, false, false, false, false]
abbrev q4k19 : Array Bool := #[false, false, false, false, false, false, false, false, false, false, false, false, false, false, false, false, false, false, false, false, false, false, false, false, false, false, false, false, false, false, false, false, false, false, false, false, false, false, false]
end Go.Proofs.Ytcahhknehmhlaaa.PAll
