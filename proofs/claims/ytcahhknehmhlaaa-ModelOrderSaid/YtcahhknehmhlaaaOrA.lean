/- Written by a program of this session (wip/xp) out of the translation: functions in plain Lean, and proofs that the calls come to these. -/
import Derived.Test.YtcahhknehmhlaaaPAllx0
import Derived.Test.YtcahhknehmhlaaaPAllx4
import Derived.Test.YtcahhknehmhlaaaPAllx6
import Derived.Test.YtcahhknehmhlaaaPAllx7
import Derived.Test.YtcahhknehmhlaaaPAllx8
import Derived.Test.YtcahhknehmhlaaaPAllx16
namespace Go.Proofs.Ytcahhknehmhlaaa.PAll
open Go.RowKit Go.Proofs.YtcahhknehmhlaaaW.PrintWords Go.Proofs.YtcahhknehmhlaaaW.PrintLast Go.Proofs.YtcahhknehmhlaaaW.PrintMore
attribute [local go_sem] max2_int min2_int max_two min_two max_three min_three max_four min_four   -- for this text's walks alone
set_option linter.unusedVariables false
set_option linter.unusedSimpArgs false

theorem rA {α : Type} {d : Kd α} {e : Nat} {w : World} {base : Nat} {ok : Nat → Prop} {v : Value} {xs : List α} (h : d.R e w base ok v xs) (o : Obj) : d.R e (w.alloc o) base ok v xs := Kd.R_alloc h o
theorem rN {α : Type} {d : Kd α} {e : Nat} {w : World} {base : Nat} {ok : Nat → Prop} {v : Value} {xs : List α} (h : d.R e w base ok v xs) (m : Nat) : d.R e (w.drewN m) base ok v xs := Kd.R_drewN h m
theorem rD {α : Type} {d : Kd α} {e : Nat} {w : World} {base : Nat} {ok : Nat → Prop} {v : Value} {xs : List α} (h : d.R e w base ok v xs) : d.R e w.drew base ok v xs := Kd.R_drew h
/-! ### clinkerlaw13_ModelOrder: function 6 -/
mutual
def clinkerlaw13_ModelOrder.l0 : Nat → Bool → List ByteArray → List ByteArray → Bool → Int → Int → Int → Int → List ByteArray → Int → Int → Int → List ByteArray → Option (Bool)
 | 0, _, _, _, _, _, _, _, _, _, _, _, _, _ => none
 | k + 1, x5, x6, x9, x11, x12, x327000, x327001, x327002, x327003, x328000, x328001, x328002, x328003 => if x12 < 5 then (clinkerlaw13_ModelOrder.l1 k x5 x6 x9 x11 x12 0 x327000 x327001 x327002 x327003 x328000 x328001 x328002 x328003) else ((model_Do.f x9 x328000 x328001 x328002 x328003).bind fun bt336 => ((model_Do.f x6 x328000 x328001 x328002 x328003).bind fun bt344 => ((model_Do.f bt344.1 x327000 x327001 x327002 x327003).bind fun bt352 => (if x5 = true then (if x11 = true then ((clinkerref13_Same.f k bt336.1 bt352.1).bind fun t360 => (if t360 = true then ((model_Part.f x6 x327000 x327001 x327002 x327003 12).bind fun t361 => ((clinkerref13_Same.f k t361 x9).bind fun t364 => (if t364 = true then ((model_Part.f x6 x327000 x327001 x327002 x327003 0).bind fun t365 => ((clinkerref13_Same.f k t365 x6).bind fun t368 => (some t368))) else (some false)))) else (some false))) else ((model_Part.f x6 x327000 x327001 x327002 x327003 12).bind fun t369 => ((clinkerref13_Same.f k t369 x9).bind fun t372 => (if t372 = true then ((model_Part.f x6 x327000 x327001 x327002 x327003 0).bind fun t373 => ((clinkerref13_Same.f k t373 x6).bind fun t376 => (some t376))) else (some false))))) else (some false)))))
def clinkerlaw13_ModelOrder.l1 : Nat → Bool → List ByteArray → List ByteArray → Bool → Int → Int → Int → Int → Int → List ByteArray → Int → Int → Int → List ByteArray → Option (Bool)
 | 0, _, _, _, _, _, _, _, _, _, _, _, _, _, _ => none
 | k + 1, x5, x6, x9, x11, x12, x13, x327000, x327001, x327002, x327003, x328000, x328001, x328002, x328003 => if x13 < 5 then (if x11 = true then (clinkerlaw13_ModelOrder.l1 k x5 x6 x9 ((wrap64 (x327001 + x12)) != (wrap64 (x328001 + x13))) x12 (wrap64 (x13 + 1)) x327000 x327001 x327002 x327003 x328000 x328001 x328002 x328003) else (clinkerlaw13_ModelOrder.l1 k x5 x6 x9 false x12 (wrap64 (x13 + 1)) x327000 x327001 x327002 x327003 x328000 x328001 x328002 x328003)) else (clinkerlaw13_ModelOrder.l0 k x5 x6 x9 x11 (wrap64 (x12 + 1)) x327000 x327001 x327002 x327003 x328000 x328001 x328002 x328003)
end
def clinkerlaw13_ModelOrder.f (k : Nat) (l0 : List Int) (l1 : List Int) : Option (Bool) := (clinkerlaw13_awake.f k).bind fun t310 => (if t310 = true then ((model_New.f 12).bind fun t311 => ((clinkerlaw13_Made.f l0).bind fun bt314 => ((clinkerlaw13_Made.f l1).bind fun bt320 => ((model_Do.f t311 bt314.1 bt314.2.1 bt314.2.2.1 bt314.2.2.2).bind fun bt328 => (clinkerlaw13_ModelOrder.l0 k t310 t311 bt328.1 true 0 bt314.1 bt314.2.1 bt314.2.2.1 bt314.2.2.2 bt320.1 bt320.2.1 bt320.2.2.1 bt320.2.2.2))))) else (some false))
theorem clinkerlaw13_ModelOrder.mono_l : ∀ k, (∀ y0 y1 y2 y3 y4 y5 y6 y7 y8 y9 y10 y11 y12, LeO (clinkerlaw13_ModelOrder.l0 k y0 y1 y2 y3 y4 y5 y6 y7 y8 y9 y10 y11 y12) (clinkerlaw13_ModelOrder.l0 (k + 1) y0 y1 y2 y3 y4 y5 y6 y7 y8 y9 y10 y11 y12)) ∧ (∀ y0 y1 y2 y3 y4 y5 y6 y7 y8 y9 y10 y11 y12 y13, LeO (clinkerlaw13_ModelOrder.l1 k y0 y1 y2 y3 y4 y5 y6 y7 y8 y9 y10 y11 y12 y13) (clinkerlaw13_ModelOrder.l1 (k + 1) y0 y1 y2 y3 y4 y5 y6 y7 y8 y9 y10 y11 y12 y13))
 | 0 => ⟨fun _ _ _ _ _ _ _ _ _ _ _ _ _ r h => by simp [clinkerlaw13_ModelOrder.l0] at h, fun _ _ _ _ _ _ _ _ _ _ _ _ _ _ r h => by simp [clinkerlaw13_ModelOrder.l1] at h⟩
 | k + 1 => by
  obtain ⟨ih0, ih1⟩ := clinkerlaw13_ModelOrder.mono_l k
  refine ⟨?_, ?_⟩
  ·
   intro y0 y1 y2 y3 y4 y5 y6 y7 y8 y9 y10 y11 y12
   unfold clinkerlaw13_ModelOrder.l0
   repeat' first
   | (with_reducible exact ih0 _ _ _ _ _ _ _ _ _ _ _ _ _)
   | (with_reducible exact ih1 _ _ _ _ _ _ _ _ _ _ _ _ _ _)
   | (with_reducible exact clinkerlaw13_awake.mono _)
   | (with_reducible exact clinkerref13_Same.mono _ _ _)
   | (with_reducible exact LeO.refl _)
   | (with_reducible exact LeO.none _)
   | (with_reducible refine LeO.ite ?_ ?_)
   | (with_reducible refine LeO.bind ?_ (fun _ => ?_))
   | exact ih0 _ _ _ _ _ _ _ _ _ _ _ _ _
   | exact ih1 _ _ _ _ _ _ _ _ _ _ _ _ _ _
   | exact clinkerlaw13_awake.mono _
   | exact clinkerref13_Same.mono _ _ _
   | exact LeO.none _
   | refine LeO.ite ?_ ?_
   | refine LeO.bind ?_ (fun _ => ?_)
  ·
   intro y0 y1 y2 y3 y4 y5 y6 y7 y8 y9 y10 y11 y12 y13
   unfold clinkerlaw13_ModelOrder.l1
   repeat' first
   | (with_reducible exact ih0 _ _ _ _ _ _ _ _ _ _ _ _ _)
   | (with_reducible exact ih1 _ _ _ _ _ _ _ _ _ _ _ _ _ _)
   | (with_reducible exact clinkerlaw13_awake.mono _)
   | (with_reducible exact clinkerref13_Same.mono _ _ _)
   | (with_reducible exact LeO.refl _)
   | (with_reducible exact LeO.none _)
   | (with_reducible refine LeO.ite ?_ ?_)
   | (with_reducible refine LeO.bind ?_ (fun _ => ?_))
   | exact ih0 _ _ _ _ _ _ _ _ _ _ _ _ _
   | exact ih1 _ _ _ _ _ _ _ _ _ _ _ _ _ _
   | exact clinkerlaw13_awake.mono _
   | exact clinkerref13_Same.mono _ _ _
   | exact LeO.none _
   | refine LeO.ite ?_ ?_
   | refine LeO.bind ?_ (fun _ => ?_)
theorem clinkerlaw13_ModelOrder.mono : ∀ a0 a1 k, LeO (clinkerlaw13_ModelOrder.f k a0 a1) (clinkerlaw13_ModelOrder.f (k + 1) a0 a1) := by
 intro a0 a1 k
 obtain ⟨ih0, ih1⟩ := clinkerlaw13_ModelOrder.mono_l k
 unfold clinkerlaw13_ModelOrder.f
 repeat' first
   | (with_reducible exact ih0 _ _ _ _ _ _ _ _ _ _ _ _ _)
   | (with_reducible exact ih1 _ _ _ _ _ _ _ _ _ _ _ _ _ _)
   | (with_reducible exact clinkerlaw13_awake.mono _)
   | (with_reducible exact clinkerref13_Same.mono _ _ _)
   | (with_reducible exact LeO.refl _)
   | (with_reducible exact LeO.none _)
   | (with_reducible refine LeO.ite ?_ ?_)
   | (with_reducible refine LeO.bind ?_ (fun _ => ?_))
   | exact ih0 _ _ _ _ _ _ _ _ _ _ _ _ _
   | exact ih1 _ _ _ _ _ _ _ _ _ _ _ _ _ _
   | exact clinkerlaw13_awake.mono _
   | exact clinkerref13_Same.mono _ _ _
   | exact LeO.none _
   | refine LeO.ite ?_ ?_
   | refine LeO.bind ?_ (fun _ => ?_)
/-- THE ONE PURE STATEMENT of clinkerlaw13_ModelOrder: yours. -/
def clinkerlaw13_ModelOrder.Pure : Prop := ∀ (l0 : List Int) (l1 : List Int), l0.length ≤ maxLen → l0.length * 1 ≤ 140737488351232 → (∀ x ∈ l0, (Lit.int .u8 x).wf = true) → l1.length ≤ maxLen → l1.length * 1 ≤ 140737488351232 → (∀ x ∈ l1, (Lit.int .u8 x).wf = true) → ∃ k, clinkerlaw13_ModelOrder.f k l0 l1 = some true
end Go.Proofs.Ytcahhknehmhlaaa.PAll
