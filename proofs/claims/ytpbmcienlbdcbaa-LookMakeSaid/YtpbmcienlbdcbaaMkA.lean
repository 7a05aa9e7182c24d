/- Written by a program of this session (wip/xp) out of the translation: functions in plain Lean, and proofs that the calls come to these. -/
import Derived.Test.YtpbmcienlbdcbaaPAllx0
import Derived.Test.YtpbmcienlbdcbaaMkE
import Derived.Test.YtpbmcienlbdcbaaPAllx12
import Derived.Test.YtpbmcienlbdcbaaPAllx13
import Derived.Test.YtpbmcienlbdcbaaMakeR
import Derived.Test.YtpbmcienlbdcbaaPAllx19
namespace Go.Proofs.Ytpbmcienlbdcbaa.PAll
open Go.RowKit Go.Proofs.YtpbmcienlbdcbaaW.PrintWords Go.Proofs.YtpbmcienlbdcbaaW.PrintLast Go.Proofs.YtpbmcienlbdcbaaW.PrintMore
attribute [local go_sem] max2_int min2_int max_two min_two max_three min_three max_four min_four   -- for this text's walks alone
set_option linter.unusedVariables false
set_option linter.unusedSimpArgs false

attribute [local go_sem high] eqA23
theorem rA {α : Type} {d : Kd α} {e : Nat} {w : World} {base : Nat} {ok : Nat → Prop} {v : Value} {xs : List α} (h : d.R e w base ok v xs) (o : Obj) : d.R e (w.alloc o) base ok v xs := Kd.R_alloc h o
theorem rN {α : Type} {d : Kd α} {e : Nat} {w : World} {base : Nat} {ok : Nat → Prop} {v : Value} {xs : List α} (h : d.R e w base ok v xs) (m : Nat) : d.R e (w.drewN m) base ok v xs := Kd.R_drewN h m
theorem rD {α : Type} {d : Kd α} {e : Nat} {w : World} {base : Nat} {ok : Nat → Prop} {v : Value} {xs : List α} (h : d.R e w base ok v xs) : d.R e w.drew base ok v xs := Kd.R_drew h
/-! ### clinkerlaw04_LookMake: function 4 -/
def clinkerlaw04_LookMake.j0 : Nat → List Int → Bool → ByteArray → Int → Int → List Int → List Int → Option (Bool)
 | 0, _, _, _, _, _, _, _ => none
 | k + 1, x1, x25, x229000, x229001, x229002, x229003, x229004 => if x25 = true then ((clinkerlaw04_awake.f).bind fun t229 => (some t229)) else ((look_Make.f k x229000 x229001 x229002 x229003 x229004).bind fun bt230 => ((clinkerref04_Make.f k x229000 x229001 x229002 x229003 x229004).bind fun bt235 => ((clinkerlaw03_Made.f x1).bind fun bt240 => ((look_Make.f k x229000 bt240.1 bt240.2.1 bt240.2.2.1 bt240.2.2.2).bind fun bt249 => ((clinkerref04_Make.f k x229000 bt240.1 bt240.2.1 bt240.2.2.1 bt240.2.2.2).bind fun bt254 => ((clinkerlaw04_awake.f).bind fun t259 => (if t259 = true then (if (bt230.1 == bt235.1 && (bt230.2.1.toList == bt235.2.1.toList && (bt230.2.2.1.toList == bt235.2.2.1.toList))) = true then (if bt230.2.2.2 = bt235.2.2.2 then (if (bt249.1 == bt254.1 && (bt249.2.1.toList == bt254.2.1.toList && (bt249.2.2.1.toList == bt254.2.2.1.toList))) = true then (some (bt249.2.2.2 == bt254.2.2.2)) else (some false)) else (some false)) else (some false)) else (some false))))))))
def clinkerlaw04_LookMake.f (k : Nat) (a0_0 : ByteArray) (a0_1 : Int) (a0_2 : Int) (l0_3 : List Int) (l0_4 : List Int) (l1 : List Int) : Option (Bool) := if (l0_3.length : Int) > 100 then (clinkerlaw04_LookMake.j0 k l1 true a0_0 a0_1 a0_2 l0_3 l0_4) else (clinkerlaw04_LookMake.j0 k l1 (decide ((l0_4.length : Int) > 100)) a0_0 a0_1 a0_2 l0_3 l0_4)
theorem clinkerlaw04_LookMake.mono_l : ∀ k, (∀ y0 y1 y2 y3 y4 y5 y6, LeO (clinkerlaw04_LookMake.j0 k y0 y1 y2 y3 y4 y5 y6) (clinkerlaw04_LookMake.j0 (k + 1) y0 y1 y2 y3 y4 y5 y6))
 | 0 => fun _ _ _ _ _ _ _ r h => by simp [clinkerlaw04_LookMake.j0] at h
 | k + 1 => by
  have ih0 := clinkerlaw04_LookMake.mono_l k
  ·
   intro y0 y1 y2 y3 y4 y5 y6
   unfold clinkerlaw04_LookMake.j0
   repeat' first
   | (with_reducible exact ih0 _ _ _ _ _ _ _)
   | (with_reducible exact clinkerref04_Make.mono _ _ _ _ _ _)
   | (with_reducible exact look_Make.mono _ _ _ _ _ _)
   | (with_reducible exact LeO.refl _)
   | (with_reducible exact LeO.none _)
   | (with_reducible refine LeO.ite ?_ ?_)
   | (with_reducible refine LeO.bind ?_ (fun _ => ?_))
   | exact ih0 _ _ _ _ _ _ _
   | exact clinkerref04_Make.mono _ _ _ _ _ _
   | exact look_Make.mono _ _ _ _ _ _
   | exact LeO.none _
   | refine LeO.ite ?_ ?_
   | refine LeO.bind ?_ (fun _ => ?_)
theorem clinkerlaw04_LookMake.mono : ∀ a0 a1 a2 a3 a4 a5 k, LeO (clinkerlaw04_LookMake.f k a0 a1 a2 a3 a4 a5) (clinkerlaw04_LookMake.f (k + 1) a0 a1 a2 a3 a4 a5) := by
 intro a0 a1 a2 a3 a4 a5 k
 have ih0 := clinkerlaw04_LookMake.mono_l k
 unfold clinkerlaw04_LookMake.f
 repeat' first
   | (with_reducible exact ih0 _ _ _ _ _ _ _)
   | (with_reducible exact clinkerref04_Make.mono _ _ _ _ _ _)
   | (with_reducible exact look_Make.mono _ _ _ _ _ _)
   | (with_reducible exact LeO.refl _)
   | (with_reducible exact LeO.none _)
   | (with_reducible refine LeO.ite ?_ ?_)
   | (with_reducible refine LeO.bind ?_ (fun _ => ?_))
   | exact ih0 _ _ _ _ _ _ _
   | exact clinkerref04_Make.mono _ _ _ _ _ _
   | exact look_Make.mono _ _ _ _ _ _
   | exact LeO.none _
   | refine LeO.ite ?_ ?_
   | refine LeO.bind ?_ (fun _ => ?_)
end Go.Proofs.Ytpbmcienlbdcbaa.PAll
