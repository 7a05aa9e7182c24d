/- Written by a program of this session (wip/xp) out of the translation: functions in plain Lean, and proofs that the calls come to these. -/
import Derived.Test.YtcahhknehmhlaaaPAllx0
import Derived.Test.YtcahhknehmhlaaaPAllx4
import Derived.Test.YtcahhknehmhlaaaPAllx7
import Derived.Test.YtcahhknehmhlaaaPAllx8
import Derived.Test.YtcahhknehmhlaaaPAllx16
namespace Go.Proofs.Ytcahhknehmhlaaa.PAll
open Go.RowKit Go.Proofs.YtcahhknehmhlaaaW.PrintWords Go.Proofs.YtcahhknehmhlaaaW.PrintLast Go.Proofs.YtcahhknehmhlaaaW.PrintMore
attribute [local go_sem] max2_int min2_int max_two min_two max_three min_three max_four min_four   -- for this text's walks alone
set_option linter.unusedVariables false
set_option linter.unusedSimpArgs false

/-! ### clinkerlaw13_ModelReads: function 5 -/
mutual
def clinkerlaw13_ModelReads.l0 : Nat → List (List Int) → Bool → List ByteArray → Int → Option (Bool)
 | 0, _, _, _, _ => none
 | k + 1, x0, x5, x6, x7 => if x7 < (x0.length : Int) then (clinkerlaw13_ModelReads.j1 k x0 x5 x6 x7 (decide (x7 < 12))) else (clinkerlaw13_ModelReads.j1 k x0 x5 x6 x7 false)
def clinkerlaw13_ModelReads.j1 : Nat → List (List Int) → Bool → List ByteArray → Int → Bool → Option (Bool)
 | 0, _, _, _, _, _ => none
 | k + 1, x0, x5, x6, x7, x30 => if x30 = true then (if 0 ≤ x7 then (if x7 < (x0.length : Int) then ((clinkerlaw13_Made.f (rd_L2 x0 x7)).bind fun bt266 => ((model_Do.f x6 bt266.1 bt266.2.1 bt266.2.2.1 bt266.2.2.2).bind fun bt273 => (if (bt273.1.length : Int) = (x6.length : Int) then (clinkerlaw13_ModelReads.l1 k x0 x5 x6 x7 bt273.1 0 bt266.1 bt266.2.1 bt266.2.2.1 bt266.2.2.2 bt273.2.1 bt273.2.2) else (some false)))) else (none)) else (none)) else (some x5)
def clinkerlaw13_ModelReads.l1 : Nat → List (List Int) → Bool → List ByteArray → Int → List ByteArray → Int → Int → Int → Int → List ByteArray → Int → List ByteArray → Option (Bool)
 | 0, _, _, _, _, _, _, _, _, _, _, _, _ => none
 | k + 1, x0, x5, x6, x7, x9, x11, x273000, x273001, x273002, x273003, x281000, x281001 => if x11 < (x6.length : Int) then (if 0 ≤ x11 then (if x281000 = 0 then (clinkerlaw13_ModelReads.j3 k x0 x5 x6 x7 x9 x11 (rdOf ByteArray.empty x6 x11) (decide (x11 ≥ x273001)) x273000 x273001 x273002 x273003 x281000 x281001) else (clinkerlaw13_ModelReads.j3 k x0 x5 x6 x7 x9 x11 (rdOf ByteArray.empty x6 x11) false x273000 x273001 x273002 x273003 x281000 x281001)) else (none)) else (clinkerlaw13_ModelReads.l0 k x0 x5 x9 (wrap64 (x7 + 1)))
def clinkerlaw13_ModelReads.j3 : Nat → List (List Int) → Bool → List ByteArray → Int → List ByteArray → Int → ByteArray → Bool → Int → Int → Int → List ByteArray → Int → List ByteArray → Option (Bool)
 | 0, _, _, _, _, _, _, _, _, _, _, _, _, _, _ => none
 | k + 1, x0, x5, x6, x7, x9, x11, x12, x67, x273000, x273001, x273002, x273003, x281000, x281001 => if x67 = true then (if x273000 = 2 then (clinkerlaw13_ModelReads.j4 k x0 x5 x6 x7 x9 x11 x12 (decide ((wrap64 (x11 - x273001)) < (x273003.length : Int))) x273000 x273001 x273002 x273003 x281000 x281001) else (clinkerlaw13_ModelReads.j4 k x0 x5 x6 x7 x9 x11 x12 false x273000 x273001 x273002 x273003 x281000 x281001)) else ((model_Do.f x9 1 x11 1 ([] : List ByteArray)).bind fun bt301 => (if (bt301.2.2.length : Int) = 1 then (if 0 < (bt301.2.2.length : Int) then (if (rdOf ByteArray.empty bt301.2.2 0).toList = x12.toList then (if bt301.2.1 = 0 then (clinkerlaw13_ModelReads.l1 k x0 x5 x6 x7 x9 (wrap64 (x11 + 1)) x273000 x273001 x273002 x273003 x281000 x281001) else (some false)) else (some false)) else (none)) else (some false)))
def clinkerlaw13_ModelReads.j4 : Nat → List (List Int) → Bool → List ByteArray → Int → List ByteArray → Int → ByteArray → Bool → Int → Int → Int → List ByteArray → Int → List ByteArray → Option (Bool)
 | 0, _, _, _, _, _, _, _, _, _, _, _, _, _, _ => none
 | k + 1, x0, x5, x6, x7, x9, x11, x12, x80, x273000, x273001, x273002, x273003, x281000, x281001 => if x80 = true then (if 0 ≤ (wrap64 (x11 - x273001)) then (if (wrap64 (x11 - x273001)) < (x273003.length : Int) then (clinkerlaw13_ModelReads.j5 k x0 x5 x6 x7 x9 x11 (rdOf ByteArray.empty x273003 (wrap64 (x11 - x273001))) x273000 x273001 x273002 x273003 x281000 x281001) else (none)) else (none)) else (clinkerlaw13_ModelReads.j5 k x0 x5 x6 x7 x9 x11 x12 x273000 x273001 x273002 x273003 x281000 x281001)
def clinkerlaw13_ModelReads.j5 : Nat → List (List Int) → Bool → List ByteArray → Int → List ByteArray → Int → ByteArray → Int → Int → Int → List ByteArray → Int → List ByteArray → Option (Bool)
 | 0, _, _, _, _, _, _, _, _, _, _, _, _, _ => none
 | k + 1, x0, x5, x6, x7, x9, x11, x12, x273000, x273001, x273002, x273003, x281000, x281001 => if x273000 = 3 then (clinkerlaw13_ModelReads.j6 k x0 x5 x6 x7 x9 x11 x12 (decide ((wrap64 (x11 - x273001)) < x273002)) x273000 x273001 x273002 x273003 x281000 x281001) else (clinkerlaw13_ModelReads.j6 k x0 x5 x6 x7 x9 x11 x12 false x273000 x273001 x273002 x273003 x281000 x281001)
def clinkerlaw13_ModelReads.j6 : Nat → List (List Int) → Bool → List ByteArray → Int → List ByteArray → Int → ByteArray → Bool → Int → Int → Int → List ByteArray → Int → List ByteArray → Option (Bool)
 | 0, _, _, _, _, _, _, _, _, _, _, _, _, _, _ => none
 | k + 1, x0, x5, x6, x7, x9, x11, x12, x100, x273000, x273001, x273002, x273003, x281000, x281001 => if x100 = true then ((model_Do.f x9 1 x11 1 ([] : List ByteArray)).bind fun bt283 => (if (bt283.2.2.length : Int) = 1 then (if 0 < (bt283.2.2.length : Int) then (if (rdOf ByteArray.empty bt283.2.2 0).toList = ([] : List UInt8) then (if bt283.2.1 = 0 then (clinkerlaw13_ModelReads.l1 k x0 x5 x6 x7 x9 (wrap64 (x11 + 1)) x273000 x273001 x273002 x273003 x281000 x281001) else (some false)) else (some false)) else (none)) else (some false))) else ((model_Do.f x9 1 x11 1 ([] : List ByteArray)).bind fun bt292 => (if (bt292.2.2.length : Int) = 1 then (if 0 < (bt292.2.2.length : Int) then (if (rdOf ByteArray.empty bt292.2.2 0).toList = x12.toList then (if bt292.2.1 = 0 then (clinkerlaw13_ModelReads.l1 k x0 x5 x6 x7 x9 (wrap64 (x11 + 1)) x273000 x273001 x273002 x273003 x281000 x281001) else (some false)) else (some false)) else (none)) else (some false)))
end
def clinkerlaw13_ModelReads.f (k : Nat) (l0 : List (List Int)) (a1 : Int) : Option (Bool) := (clinkerlaw13_awake.f k).bind fun t261 => (if t261 = true then ((model_New.f (wrap64 (1 + (Int.tmod (wrap64 (a1)) 12)))).bind fun t262 => (clinkerlaw13_ModelReads.l0 k l0 t261 t262 0)) else (some false))
theorem clinkerlaw13_ModelReads.mono_l : ∀ k, (∀ y0 y1 y2 y3, LeO (clinkerlaw13_ModelReads.l0 k y0 y1 y2 y3) (clinkerlaw13_ModelReads.l0 (k + 1) y0 y1 y2 y3)) ∧ (∀ y0 y1 y2 y3 y4, LeO (clinkerlaw13_ModelReads.j1 k y0 y1 y2 y3 y4) (clinkerlaw13_ModelReads.j1 (k + 1) y0 y1 y2 y3 y4)) ∧ (∀ y0 y1 y2 y3 y4 y5 y6 y7 y8 y9 y10 y11, LeO (clinkerlaw13_ModelReads.l1 k y0 y1 y2 y3 y4 y5 y6 y7 y8 y9 y10 y11) (clinkerlaw13_ModelReads.l1 (k + 1) y0 y1 y2 y3 y4 y5 y6 y7 y8 y9 y10 y11)) ∧ (∀ y0 y1 y2 y3 y4 y5 y6 y7 y8 y9 y10 y11 y12 y13, LeO (clinkerlaw13_ModelReads.j3 k y0 y1 y2 y3 y4 y5 y6 y7 y8 y9 y10 y11 y12 y13) (clinkerlaw13_ModelReads.j3 (k + 1) y0 y1 y2 y3 y4 y5 y6 y7 y8 y9 y10 y11 y12 y13)) ∧ (∀ y0 y1 y2 y3 y4 y5 y6 y7 y8 y9 y10 y11 y12 y13, LeO (clinkerlaw13_ModelReads.j4 k y0 y1 y2 y3 y4 y5 y6 y7 y8 y9 y10 y11 y12 y13) (clinkerlaw13_ModelReads.j4 (k + 1) y0 y1 y2 y3 y4 y5 y6 y7 y8 y9 y10 y11 y12 y13)) ∧ (∀ y0 y1 y2 y3 y4 y5 y6 y7 y8 y9 y10 y11 y12, LeO (clinkerlaw13_ModelReads.j5 k y0 y1 y2 y3 y4 y5 y6 y7 y8 y9 y10 y11 y12) (clinkerlaw13_ModelReads.j5 (k + 1) y0 y1 y2 y3 y4 y5 y6 y7 y8 y9 y10 y11 y12)) ∧ (∀ y0 y1 y2 y3 y4 y5 y6 y7 y8 y9 y10 y11 y12 y13, LeO (clinkerlaw13_ModelReads.j6 k y0 y1 y2 y3 y4 y5 y6 y7 y8 y9 y10 y11 y12 y13) (clinkerlaw13_ModelReads.j6 (k + 1) y0 y1 y2 y3 y4 y5 y6 y7 y8 y9 y10 y11 y12 y13))
 | 0 => ⟨fun _ _ _ _ r h => by simp [clinkerlaw13_ModelReads.l0] at h, fun _ _ _ _ _ r h => by simp [clinkerlaw13_ModelReads.j1] at h, fun _ _ _ _ _ _ _ _ _ _ _ _ r h => by simp [clinkerlaw13_ModelReads.l1] at h, fun _ _ _ _ _ _ _ _ _ _ _ _ _ _ r h => by simp [clinkerlaw13_ModelReads.j3] at h, fun _ _ _ _ _ _ _ _ _ _ _ _ _ _ r h => by simp [clinkerlaw13_ModelReads.j4] at h, fun _ _ _ _ _ _ _ _ _ _ _ _ _ r h => by simp [clinkerlaw13_ModelReads.j5] at h, fun _ _ _ _ _ _ _ _ _ _ _ _ _ _ r h => by simp [clinkerlaw13_ModelReads.j6] at h⟩
 | k + 1 => by
  obtain ⟨ih0, ih1, ih2, ih3, ih4, ih5, ih6⟩ := clinkerlaw13_ModelReads.mono_l k
  refine ⟨?_, ?_, ?_, ?_, ?_, ?_, ?_⟩
  ·
   intro y0 y1 y2 y3
   unfold clinkerlaw13_ModelReads.l0
   repeat' first
   | (with_reducible exact ih0 _ _ _ _)
   | (with_reducible exact ih1 _ _ _ _ _)
   | (with_reducible exact ih2 _ _ _ _ _ _ _ _ _ _ _ _)
   | (with_reducible exact ih3 _ _ _ _ _ _ _ _ _ _ _ _ _ _)
   | (with_reducible exact ih4 _ _ _ _ _ _ _ _ _ _ _ _ _ _)
   | (with_reducible exact ih5 _ _ _ _ _ _ _ _ _ _ _ _ _)
   | (with_reducible exact ih6 _ _ _ _ _ _ _ _ _ _ _ _ _ _)
   | (with_reducible exact clinkerlaw13_awake.mono _)
   | (with_reducible exact LeO.refl _)
   | (with_reducible exact LeO.none _)
   | (with_reducible refine LeO.ite ?_ ?_)
   | (with_reducible refine LeO.bind ?_ (fun _ => ?_))
   | exact ih0 _ _ _ _
   | exact ih1 _ _ _ _ _
   | exact ih2 _ _ _ _ _ _ _ _ _ _ _ _
   | exact ih3 _ _ _ _ _ _ _ _ _ _ _ _ _ _
   | exact ih4 _ _ _ _ _ _ _ _ _ _ _ _ _ _
   | exact ih5 _ _ _ _ _ _ _ _ _ _ _ _ _
   | exact ih6 _ _ _ _ _ _ _ _ _ _ _ _ _ _
   | exact clinkerlaw13_awake.mono _
   | exact LeO.none _
   | refine LeO.ite ?_ ?_
   | refine LeO.bind ?_ (fun _ => ?_)
  ·
   intro y0 y1 y2 y3 y4
   unfold clinkerlaw13_ModelReads.j1
   repeat' first
   | (with_reducible exact ih0 _ _ _ _)
   | (with_reducible exact ih1 _ _ _ _ _)
   | (with_reducible exact ih2 _ _ _ _ _ _ _ _ _ _ _ _)
   | (with_reducible exact ih3 _ _ _ _ _ _ _ _ _ _ _ _ _ _)
   | (with_reducible exact ih4 _ _ _ _ _ _ _ _ _ _ _ _ _ _)
   | (with_reducible exact ih5 _ _ _ _ _ _ _ _ _ _ _ _ _)
   | (with_reducible exact ih6 _ _ _ _ _ _ _ _ _ _ _ _ _ _)
   | (with_reducible exact clinkerlaw13_awake.mono _)
   | (with_reducible exact LeO.refl _)
   | (with_reducible exact LeO.none _)
   | (with_reducible refine LeO.ite ?_ ?_)
   | (with_reducible refine LeO.bind ?_ (fun _ => ?_))
   | exact ih0 _ _ _ _
   | exact ih1 _ _ _ _ _
   | exact ih2 _ _ _ _ _ _ _ _ _ _ _ _
   | exact ih3 _ _ _ _ _ _ _ _ _ _ _ _ _ _
   | exact ih4 _ _ _ _ _ _ _ _ _ _ _ _ _ _
   | exact ih5 _ _ _ _ _ _ _ _ _ _ _ _ _
   | exact ih6 _ _ _ _ _ _ _ _ _ _ _ _ _ _
   | exact clinkerlaw13_awake.mono _
   | exact LeO.none _
   | refine LeO.ite ?_ ?_
   | refine LeO.bind ?_ (fun _ => ?_)
  ·
   intro y0 y1 y2 y3 y4 y5 y6 y7 y8 y9 y10 y11
   unfold clinkerlaw13_ModelReads.l1
   repeat' first
   | (with_reducible exact ih0 _ _ _ _)
   | (with_reducible exact ih1 _ _ _ _ _)
   | (with_reducible exact ih2 _ _ _ _ _ _ _ _ _ _ _ _)
   | (with_reducible exact ih3 _ _ _ _ _ _ _ _ _ _ _ _ _ _)
   | (with_reducible exact ih4 _ _ _ _ _ _ _ _ _ _ _ _ _ _)
   | (with_reducible exact ih5 _ _ _ _ _ _ _ _ _ _ _ _ _)
   | (with_reducible exact ih6 _ _ _ _ _ _ _ _ _ _ _ _ _ _)
   | (with_reducible exact clinkerlaw13_awake.mono _)
   | (with_reducible exact LeO.refl _)
   | (with_reducible exact LeO.none _)
   | (with_reducible refine LeO.ite ?_ ?_)
   | (with_reducible refine LeO.bind ?_ (fun _ => ?_))
   | exact ih0 _ _ _ _
   | exact ih1 _ _ _ _ _
   | exact ih2 _ _ _ _ _ _ _ _ _ _ _ _
   | exact ih3 _ _ _ _ _ _ _ _ _ _ _ _ _ _
   | exact ih4 _ _ _ _ _ _ _ _ _ _ _ _ _ _
   | exact ih5 _ _ _ _ _ _ _ _ _ _ _ _ _
   | exact ih6 _ _ _ _ _ _ _ _ _ _ _ _ _ _
   | exact clinkerlaw13_awake.mono _
   | exact LeO.none _
   | refine LeO.ite ?_ ?_
   | refine LeO.bind ?_ (fun _ => ?_)
  ·
   intro y0 y1 y2 y3 y4 y5 y6 y7 y8 y9 y10 y11 y12 y13
   unfold clinkerlaw13_ModelReads.j3
   repeat' first
   | (with_reducible exact ih0 _ _ _ _)
   | (with_reducible exact ih1 _ _ _ _ _)
   | (with_reducible exact ih2 _ _ _ _ _ _ _ _ _ _ _ _)
   | (with_reducible exact ih3 _ _ _ _ _ _ _ _ _ _ _ _ _ _)
   | (with_reducible exact ih4 _ _ _ _ _ _ _ _ _ _ _ _ _ _)
   | (with_reducible exact ih5 _ _ _ _ _ _ _ _ _ _ _ _ _)
   | (with_reducible exact ih6 _ _ _ _ _ _ _ _ _ _ _ _ _ _)
   | (with_reducible exact clinkerlaw13_awake.mono _)
   | (with_reducible exact LeO.refl _)
   | (with_reducible exact LeO.none _)
   | (with_reducible refine LeO.ite ?_ ?_)
   | (with_reducible refine LeO.bind ?_ (fun _ => ?_))
   | exact ih0 _ _ _ _
   | exact ih1 _ _ _ _ _
   | exact ih2 _ _ _ _ _ _ _ _ _ _ _ _
   | exact ih3 _ _ _ _ _ _ _ _ _ _ _ _ _ _
   | exact ih4 _ _ _ _ _ _ _ _ _ _ _ _ _ _
   | exact ih5 _ _ _ _ _ _ _ _ _ _ _ _ _
   | exact ih6 _ _ _ _ _ _ _ _ _ _ _ _ _ _
   | exact clinkerlaw13_awake.mono _
   | exact LeO.none _
   | refine LeO.ite ?_ ?_
   | refine LeO.bind ?_ (fun _ => ?_)
  ·
   intro y0 y1 y2 y3 y4 y5 y6 y7 y8 y9 y10 y11 y12 y13
   unfold clinkerlaw13_ModelReads.j4
   repeat' first
   | (with_reducible exact ih0 _ _ _ _)
   | (with_reducible exact ih1 _ _ _ _ _)
   | (with_reducible exact ih2 _ _ _ _ _ _ _ _ _ _ _ _)
   | (with_reducible exact ih3 _ _ _ _ _ _ _ _ _ _ _ _ _ _)
   | (with_reducible exact ih4 _ _ _ _ _ _ _ _ _ _ _ _ _ _)
   | (with_reducible exact ih5 _ _ _ _ _ _ _ _ _ _ _ _ _)
   | (with_reducible exact ih6 _ _ _ _ _ _ _ _ _ _ _ _ _ _)
   | (with_reducible exact clinkerlaw13_awake.mono _)
   | (with_reducible exact LeO.refl _)
   | (with_reducible exact LeO.none _)
   | (with_reducible refine LeO.ite ?_ ?_)
   | (with_reducible refine LeO.bind ?_ (fun _ => ?_))
   | exact ih0 _ _ _ _
   | exact ih1 _ _ _ _ _
   | exact ih2 _ _ _ _ _ _ _ _ _ _ _ _
   | exact ih3 _ _ _ _ _ _ _ _ _ _ _ _ _ _
   | exact ih4 _ _ _ _ _ _ _ _ _ _ _ _ _ _
   | exact ih5 _ _ _ _ _ _ _ _ _ _ _ _ _
   | exact ih6 _ _ _ _ _ _ _ _ _ _ _ _ _ _
   | exact clinkerlaw13_awake.mono _
   | exact LeO.none _
   | refine LeO.ite ?_ ?_
   | refine LeO.bind ?_ (fun _ => ?_)
  ·
   intro y0 y1 y2 y3 y4 y5 y6 y7 y8 y9 y10 y11 y12
   unfold clinkerlaw13_ModelReads.j5
   repeat' first
   | (with_reducible exact ih0 _ _ _ _)
   | (with_reducible exact ih1 _ _ _ _ _)
   | (with_reducible exact ih2 _ _ _ _ _ _ _ _ _ _ _ _)
   | (with_reducible exact ih3 _ _ _ _ _ _ _ _ _ _ _ _ _ _)
   | (with_reducible exact ih4 _ _ _ _ _ _ _ _ _ _ _ _ _ _)
   | (with_reducible exact ih5 _ _ _ _ _ _ _ _ _ _ _ _ _)
   | (with_reducible exact ih6 _ _ _ _ _ _ _ _ _ _ _ _ _ _)
   | (with_reducible exact clinkerlaw13_awake.mono _)
   | (with_reducible exact LeO.refl _)
   | (with_reducible exact LeO.none _)
   | (with_reducible refine LeO.ite ?_ ?_)
   | (with_reducible refine LeO.bind ?_ (fun _ => ?_))
   | exact ih0 _ _ _ _
   | exact ih1 _ _ _ _ _
   | exact ih2 _ _ _ _ _ _ _ _ _ _ _ _
   | exact ih3 _ _ _ _ _ _ _ _ _ _ _ _ _ _
   | exact ih4 _ _ _ _ _ _ _ _ _ _ _ _ _ _
   | exact ih5 _ _ _ _ _ _ _ _ _ _ _ _ _
   | exact ih6 _ _ _ _ _ _ _ _ _ _ _ _ _ _
   | exact clinkerlaw13_awake.mono _
   | exact LeO.none _
   | refine LeO.ite ?_ ?_
   | refine LeO.bind ?_ (fun _ => ?_)
  ·
   intro y0 y1 y2 y3 y4 y5 y6 y7 y8 y9 y10 y11 y12 y13
   unfold clinkerlaw13_ModelReads.j6
   repeat' first
   | (with_reducible exact ih0 _ _ _ _)
   | (with_reducible exact ih1 _ _ _ _ _)
   | (with_reducible exact ih2 _ _ _ _ _ _ _ _ _ _ _ _)
   | (with_reducible exact ih3 _ _ _ _ _ _ _ _ _ _ _ _ _ _)
   | (with_reducible exact ih4 _ _ _ _ _ _ _ _ _ _ _ _ _ _)
   | (with_reducible exact ih5 _ _ _ _ _ _ _ _ _ _ _ _ _)
   | (with_reducible exact ih6 _ _ _ _ _ _ _ _ _ _ _ _ _ _)
   | (with_reducible exact clinkerlaw13_awake.mono _)
   | (with_reducible exact LeO.refl _)
   | (with_reducible exact LeO.none _)
   | (with_reducible refine LeO.ite ?_ ?_)
   | (with_reducible refine LeO.bind ?_ (fun _ => ?_))
   | exact ih0 _ _ _ _
   | exact ih1 _ _ _ _ _
   | exact ih2 _ _ _ _ _ _ _ _ _ _ _ _
   | exact ih3 _ _ _ _ _ _ _ _ _ _ _ _ _ _
   | exact ih4 _ _ _ _ _ _ _ _ _ _ _ _ _ _
   | exact ih5 _ _ _ _ _ _ _ _ _ _ _ _ _
   | exact ih6 _ _ _ _ _ _ _ _ _ _ _ _ _ _
   | exact clinkerlaw13_awake.mono _
   | exact LeO.none _
   | refine LeO.ite ?_ ?_
   | refine LeO.bind ?_ (fun _ => ?_)
theorem clinkerlaw13_ModelReads.mono : ∀ a0 a1 k, LeO (clinkerlaw13_ModelReads.f k a0 a1) (clinkerlaw13_ModelReads.f (k + 1) a0 a1) := by
 intro a0 a1 k
 obtain ⟨ih0, ih1, ih2, ih3, ih4, ih5, ih6⟩ := clinkerlaw13_ModelReads.mono_l k
 unfold clinkerlaw13_ModelReads.f
 repeat' first
   | (with_reducible exact ih0 _ _ _ _)
   | (with_reducible exact ih1 _ _ _ _ _)
   | (with_reducible exact ih2 _ _ _ _ _ _ _ _ _ _ _ _)
   | (with_reducible exact ih3 _ _ _ _ _ _ _ _ _ _ _ _ _ _)
   | (with_reducible exact ih4 _ _ _ _ _ _ _ _ _ _ _ _ _ _)
   | (with_reducible exact ih5 _ _ _ _ _ _ _ _ _ _ _ _ _)
   | (with_reducible exact ih6 _ _ _ _ _ _ _ _ _ _ _ _ _ _)
   | (with_reducible exact clinkerlaw13_awake.mono _)
   | (with_reducible exact LeO.refl _)
   | (with_reducible exact LeO.none _)
   | (with_reducible refine LeO.ite ?_ ?_)
   | (with_reducible refine LeO.bind ?_ (fun _ => ?_))
   | exact ih0 _ _ _ _
   | exact ih1 _ _ _ _ _
   | exact ih2 _ _ _ _ _ _ _ _ _ _ _ _
   | exact ih3 _ _ _ _ _ _ _ _ _ _ _ _ _ _
   | exact ih4 _ _ _ _ _ _ _ _ _ _ _ _ _ _
   | exact ih5 _ _ _ _ _ _ _ _ _ _ _ _ _
   | exact ih6 _ _ _ _ _ _ _ _ _ _ _ _ _ _
   | exact clinkerlaw13_awake.mono _
   | exact LeO.none _
   | refine LeO.ite ?_ ?_
   | refine LeO.bind ?_ (fun _ => ?_)
end Go.Proofs.Ytcahhknehmhlaaa.PAll
