/- Written by a program of this session (wip/xp) out of the translation: functions in plain Lean, and proofs that the calls come to these. -/
import Derived.Test.YthjjngfbpoapnaaPAllx0
import Derived.Test.YthjjngfbpoapnaaPAllx1
import Derived.Test.YthjjngfbpoapnaaPAllx2
import Derived.Test.YthjjngfbpoapnaaPAllx6
import Derived.Test.YthjjngfbpoapnaaPAllx7
import Derived.Test.YthjjngfbpoapnaaPAllx8
namespace Go.Proofs.Ythjjngfbpoapnaa.PAll
open Go.RowKit Go.Proofs.YthjjngfbpoapnaaW.PrintWords Go.Proofs.YthjjngfbpoapnaaW.PrintLast Go.Proofs.YthjjngfbpoapnaaW.PrintMore
attribute [local go_sem] max2_int min2_int max_two min_two max_three min_three max_four min_four   -- for this text's walks alone
set_option linter.unusedVariables false
set_option linter.unusedSimpArgs false

theorem rA {α : Type} {d : Kd α} {e : Nat} {w : World} {base : Nat} {ok : Nat → Prop} {v : Value} {xs : List α} (h : d.R e w base ok v xs) (o : Obj) : d.R e (w.alloc o) base ok v xs := Kd.R_alloc h o
theorem rN {α : Type} {d : Kd α} {e : Nat} {w : World} {base : Nat} {ok : Nat → Prop} {v : Value} {xs : List α} (h : d.R e w base ok v xs) (m : Nat) : d.R e (w.drewN m) base ok v xs := Kd.R_drewN h m
theorem rD {α : Type} {d : Kd α} {e : Nat} {w : World} {base : Nat} {ok : Nat → Prop} {v : Value} {xs : List α} (h : d.R e w base ok v xs) : d.R e w.drew base ok v xs := Kd.R_drew h
/-! ### clinkerlaw05_NandCounts: function 10 -/
mutual
def clinkerlaw05_NandCounts.l0 : Nat → List (S37) → Bool → Int → List (S44) → Bool → Bool → Int → Option (Bool)
 | 0, _, _, _, _, _, _, _ => none
 | k + 1, x0, x5, x8, x270000, x270001, x270002, x270003 => if x8 < (x0.length : Int) then (clinkerlaw05_NandCounts.j1 k x0 x5 x8 (decide (x8 < 12)) x270000 x270001 x270002 x270003) else (clinkerlaw05_NandCounts.j1 k x0 x5 x8 false x270000 x270001 x270002 x270003)
def clinkerlaw05_NandCounts.j1 : Nat → List (S37) → Bool → Int → Bool → List (S44) → Bool → Bool → Int → Option (Bool)
 | 0, _, _, _, _, _, _, _, _ => none
 | k + 1, x0, x5, x8, x35, x270000, x270001, x270002, x270003 => if x35 = true then (if 0 ≤ x8 then (if x8 < (x0.length : Int) then ((clinkerlaw05_Fate.f ((rd_T37 x0 x8).f0) ((rd_T37 x0 x8).f1) ((rd_T37 x0 x8).f2) ((rd_T37 x0 x8).f3) ((rd_T37 x0 x8).f4) ((rd_T37 x0 x8).f5)).bind fun bt272 => ((nand_Erase.f x270000 x270001 x270002 x270003 (Int.tmod (wrap64 ((rd_T37 x0 x8).f1)) 4) bt272.1 bt272.2.1 bt272.2.2.1 bt272.2.2.2).bind fun bt277 => (if (Int.tmod ((rd_T37 x0 x8).f0) 3) > 0 then ((nand_Program.f x270000 x270001 x270002 x270003 (Int.tmod (wrap64 ((rd_T37 x0 x8).f1)) 4) (Int.tmod (wrap64 ((rd_T37 x0 x8).f2)) 5) false (⟨#[]⟩ : ByteArray) (⟨#[]⟩ : ByteArray) bt272.1 bt272.2.1 bt272.2.2.1 bt272.2.2.2).bind fun bt287 => (clinkerlaw05_NandCounts.j2 k x0 x5 x8 bt287.2.2.2.2 x270000 x270001 x270002 x270003 bt287.1 bt287.2.1 bt287.2.2.1 bt287.2.2.2.1)) else (clinkerlaw05_NandCounts.j2 k x0 x5 x8 bt277.2.2.2.2 x270000 x270001 x270002 x270003 bt277.1 bt277.2.1 bt277.2.2.1 bt277.2.2.2.1)))) else (none)) else (none)) else (some x5)
def clinkerlaw05_NandCounts.j2 : Nat → List (S37) → Bool → Int → Int → List (S44) → Bool → Bool → Int → List (S44) → Bool → Bool → Int → Option (Bool)
 | 0, _, _, _, _, _, _, _, _, _, _, _, _ => none
 | k + 1, x0, x5, x8, x12, x270000, x270001, x270002, x270003, x285000, x285001, x285002, x285003 => if (x285000.length : Int) = 3 then (if x12 = 1 then (clinkerlaw05_NandCounts.j3 k x0 x5 x8 x12 0 x270000 x270001 x270002 x270003 x285000 x285001 x285002 x285003) else (clinkerlaw05_NandCounts.j3 k x0 x5 x8 x12 1 x270000 x270001 x270002 x270003 x285000 x285001 x285002 x285003)) else (some false)
def clinkerlaw05_NandCounts.j3 : Nat → List (S37) → Bool → Int → Int → Int → List (S44) → Bool → Bool → Int → List (S44) → Bool → Bool → Int → Option (Bool)
 | 0, _, _, _, _, _, _, _, _, _, _, _, _, _ => none
 | k + 1, x0, x5, x8, x12, x13, x270000, x270001, x270002, x270003, x285000, x285001, x285002, x285003 => clinkerlaw05_NandCounts.l1 k x0 x5 x8 x12 x13 0 0 x270000 x270001 x270002 x270003 x285000 x285001 x285002 x285003
def clinkerlaw05_NandCounts.l1 : Nat → List (S37) → Bool → Int → Int → Int → Int → Int → List (S44) → Bool → Bool → Int → List (S44) → Bool → Bool → Int → Option (Bool)
 | 0, _, _, _, _, _, _, _, _, _, _, _, _, _, _, _ => none
 | k + 1, x0, x5, x8, x12, x13, x14, x15, x270000, x270001, x270002, x270003, x285000, x285001, x285002, x285003 => if x15 < 3 then (if 0 ≤ x15 then (if x15 < (x285000.length : Int) then (if x15 < (x270000.length : Int) then (clinkerlaw05_NandCounts.l1 k x0 x5 x8 x12 x13 (wrap64 ((wrap64 (x14 + ((rd_T44 x285000 x15).f2))) - ((rd_T44 x270000 x15).f2))) (wrap64 (x15 + 1)) x270000 x270001 x270002 x270003 x285000 x285001 x285002 x285003) else (none)) else (none)) else (none)) else (if 0 ≤ x8 then (if x8 < (x0.length : Int) then (if (Int.tmod ((rd_T37 x0 x8).f0) 3) = 0 then (if x12 = 0 then (clinkerlaw05_NandCounts.j5 k x0 x5 x8 x13 x14 0 true x270000 x270001 x270002 x270003 x285000 x285001 x285002 x285003) else (clinkerlaw05_NandCounts.j5 k x0 x5 x8 x13 x14 0 (x12 == 52) x270000 x270001 x270002 x270003 x285000 x285001 x285002 x285003)) else (clinkerlaw05_NandCounts.j5 k x0 x5 x8 x13 x14 0 false x270000 x270001 x270002 x270003 x285000 x285001 x285002 x285003)) else (none)) else (none))
def clinkerlaw05_NandCounts.j5 : Nat → List (S37) → Bool → Int → Int → Int → Int → Bool → List (S44) → Bool → Bool → Int → List (S44) → Bool → Bool → Int → Option (Bool)
 | 0, _, _, _, _, _, _, _, _, _, _, _, _, _, _, _ => none
 | k + 1, x0, x5, x8, x13, x14, x16, x118, x270000, x270001, x270002, x270003, x285000, x285001, x285002, x285003 => if x118 = true then (if x285003 = (wrap64 (x270003 + x13)) then (if x14 = 1 then (if x270001 = true then (if (x285001 != true) = true then (some false) else ((nand_On.f x285000 x285001 x285002 x285003).bind fun bt297 => (clinkerlaw05_NandCounts.l0 k x0 x5 (wrap64 (x8 + 1)) bt297.1 bt297.2.1 bt297.2.2.1 bt297.2.2.2))) else (if (x285001 != (x13 == 0)) = true then (some false) else ((nand_On.f x285000 x285001 x285002 x285003).bind fun bt303 => (clinkerlaw05_NandCounts.l0 k x0 x5 (wrap64 (x8 + 1)) bt303.1 bt303.2.1 bt303.2.2.1 bt303.2.2.2)))) else (some false)) else (some false)) else (if x285003 = (wrap64 (x270003 + x13)) then (if x14 = x16 then (if x270001 = true then (if (x285001 != true) = true then (some false) else ((nand_On.f x285000 x285001 x285002 x285003).bind fun bt309 => (clinkerlaw05_NandCounts.l0 k x0 x5 (wrap64 (x8 + 1)) bt309.1 bt309.2.1 bt309.2.2.1 bt309.2.2.2))) else (if (x285001 != (x13 == 0)) = true then (some false) else ((nand_On.f x285000 x285001 x285002 x285003).bind fun bt315 => (clinkerlaw05_NandCounts.l0 k x0 x5 (wrap64 (x8 + 1)) bt315.1 bt315.2.1 bt315.2.2.1 bt315.2.2.2)))) else (some false)) else (some false))
end
def clinkerlaw05_NandCounts.f (k : Nat) (l0 : List (S37)) (a1 : Int) : Option (Bool) := (clinkerlaw05_awake.f).bind fun t261 => (if t261 = true then ((nand_New.f 3 (wrap64 (1 + (Int.tmod (wrap64 (a1)) 5))) ([] : List Int)).bind fun bt262 => (clinkerlaw05_NandCounts.l0 k l0 t261 0 bt262.1 bt262.2.1 bt262.2.2.1 bt262.2.2.2.1)) else (some false))
theorem clinkerlaw05_NandCounts.mono_l : ∀ k, (∀ y0 y1 y2 y3 y4 y5 y6, LeO (clinkerlaw05_NandCounts.l0 k y0 y1 y2 y3 y4 y5 y6) (clinkerlaw05_NandCounts.l0 (k + 1) y0 y1 y2 y3 y4 y5 y6)) ∧ (∀ y0 y1 y2 y3 y4 y5 y6 y7, LeO (clinkerlaw05_NandCounts.j1 k y0 y1 y2 y3 y4 y5 y6 y7) (clinkerlaw05_NandCounts.j1 (k + 1) y0 y1 y2 y3 y4 y5 y6 y7)) ∧ (∀ y0 y1 y2 y3 y4 y5 y6 y7 y8 y9 y10 y11, LeO (clinkerlaw05_NandCounts.j2 k y0 y1 y2 y3 y4 y5 y6 y7 y8 y9 y10 y11) (clinkerlaw05_NandCounts.j2 (k + 1) y0 y1 y2 y3 y4 y5 y6 y7 y8 y9 y10 y11)) ∧ (∀ y0 y1 y2 y3 y4 y5 y6 y7 y8 y9 y10 y11 y12, LeO (clinkerlaw05_NandCounts.j3 k y0 y1 y2 y3 y4 y5 y6 y7 y8 y9 y10 y11 y12) (clinkerlaw05_NandCounts.j3 (k + 1) y0 y1 y2 y3 y4 y5 y6 y7 y8 y9 y10 y11 y12)) ∧ (∀ y0 y1 y2 y3 y4 y5 y6 y7 y8 y9 y10 y11 y12 y13 y14, LeO (clinkerlaw05_NandCounts.l1 k y0 y1 y2 y3 y4 y5 y6 y7 y8 y9 y10 y11 y12 y13 y14) (clinkerlaw05_NandCounts.l1 (k + 1) y0 y1 y2 y3 y4 y5 y6 y7 y8 y9 y10 y11 y12 y13 y14)) ∧ (∀ y0 y1 y2 y3 y4 y5 y6 y7 y8 y9 y10 y11 y12 y13 y14, LeO (clinkerlaw05_NandCounts.j5 k y0 y1 y2 y3 y4 y5 y6 y7 y8 y9 y10 y11 y12 y13 y14) (clinkerlaw05_NandCounts.j5 (k + 1) y0 y1 y2 y3 y4 y5 y6 y7 y8 y9 y10 y11 y12 y13 y14))
 | 0 => ⟨fun _ _ _ _ _ _ _ r h => by simp [clinkerlaw05_NandCounts.l0] at h, fun _ _ _ _ _ _ _ _ r h => by simp [clinkerlaw05_NandCounts.j1] at h, fun _ _ _ _ _ _ _ _ _ _ _ _ r h => by simp [clinkerlaw05_NandCounts.j2] at h, fun _ _ _ _ _ _ _ _ _ _ _ _ _ r h => by simp [clinkerlaw05_NandCounts.j3] at h, fun _ _ _ _ _ _ _ _ _ _ _ _ _ _ _ r h => by simp [clinkerlaw05_NandCounts.l1] at h, fun _ _ _ _ _ _ _ _ _ _ _ _ _ _ _ r h => by simp [clinkerlaw05_NandCounts.j5] at h⟩
 | k + 1 => by
  obtain ⟨ih0, ih1, ih2, ih3, ih4, ih5⟩ := clinkerlaw05_NandCounts.mono_l k
  refine ⟨?_, ?_, ?_, ?_, ?_, ?_⟩
  ·
   intro y0 y1 y2 y3 y4 y5 y6
   unfold clinkerlaw05_NandCounts.l0
   repeat' first
   | (with_reducible exact ih0 _ _ _ _ _ _ _)
   | (with_reducible exact ih1 _ _ _ _ _ _ _ _)
   | (with_reducible exact ih2 _ _ _ _ _ _ _ _ _ _ _ _)
   | (with_reducible exact ih3 _ _ _ _ _ _ _ _ _ _ _ _ _)
   | (with_reducible exact ih4 _ _ _ _ _ _ _ _ _ _ _ _ _ _ _)
   | (with_reducible exact ih5 _ _ _ _ _ _ _ _ _ _ _ _ _ _ _)
   | (with_reducible exact LeO.refl _)
   | (with_reducible exact LeO.none _)
   | (with_reducible refine LeO.ite ?_ ?_)
   | (with_reducible refine LeO.bind ?_ (fun _ => ?_))
   | exact ih0 _ _ _ _ _ _ _
   | exact ih1 _ _ _ _ _ _ _ _
   | exact ih2 _ _ _ _ _ _ _ _ _ _ _ _
   | exact ih3 _ _ _ _ _ _ _ _ _ _ _ _ _
   | exact ih4 _ _ _ _ _ _ _ _ _ _ _ _ _ _ _
   | exact ih5 _ _ _ _ _ _ _ _ _ _ _ _ _ _ _
   | exact LeO.none _
   | refine LeO.ite ?_ ?_
   | refine LeO.bind ?_ (fun _ => ?_)
  ·
   intro y0 y1 y2 y3 y4 y5 y6 y7
   unfold clinkerlaw05_NandCounts.j1
   repeat' first
   | (with_reducible exact ih0 _ _ _ _ _ _ _)
   | (with_reducible exact ih1 _ _ _ _ _ _ _ _)
   | (with_reducible exact ih2 _ _ _ _ _ _ _ _ _ _ _ _)
   | (with_reducible exact ih3 _ _ _ _ _ _ _ _ _ _ _ _ _)
   | (with_reducible exact ih4 _ _ _ _ _ _ _ _ _ _ _ _ _ _ _)
   | (with_reducible exact ih5 _ _ _ _ _ _ _ _ _ _ _ _ _ _ _)
   | (with_reducible exact LeO.refl _)
   | (with_reducible exact LeO.none _)
   | (with_reducible refine LeO.ite ?_ ?_)
   | (with_reducible refine LeO.bind ?_ (fun _ => ?_))
   | exact ih0 _ _ _ _ _ _ _
   | exact ih1 _ _ _ _ _ _ _ _
   | exact ih2 _ _ _ _ _ _ _ _ _ _ _ _
   | exact ih3 _ _ _ _ _ _ _ _ _ _ _ _ _
   | exact ih4 _ _ _ _ _ _ _ _ _ _ _ _ _ _ _
   | exact ih5 _ _ _ _ _ _ _ _ _ _ _ _ _ _ _
   | exact LeO.none _
   | refine LeO.ite ?_ ?_
   | refine LeO.bind ?_ (fun _ => ?_)
  ·
   intro y0 y1 y2 y3 y4 y5 y6 y7 y8 y9 y10 y11
   unfold clinkerlaw05_NandCounts.j2
   repeat' first
   | (with_reducible exact ih0 _ _ _ _ _ _ _)
   | (with_reducible exact ih1 _ _ _ _ _ _ _ _)
   | (with_reducible exact ih2 _ _ _ _ _ _ _ _ _ _ _ _)
   | (with_reducible exact ih3 _ _ _ _ _ _ _ _ _ _ _ _ _)
   | (with_reducible exact ih4 _ _ _ _ _ _ _ _ _ _ _ _ _ _ _)
   | (with_reducible exact ih5 _ _ _ _ _ _ _ _ _ _ _ _ _ _ _)
   | (with_reducible exact LeO.refl _)
   | (with_reducible exact LeO.none _)
   | (with_reducible refine LeO.ite ?_ ?_)
   | (with_reducible refine LeO.bind ?_ (fun _ => ?_))
   | exact ih0 _ _ _ _ _ _ _
   | exact ih1 _ _ _ _ _ _ _ _
   | exact ih2 _ _ _ _ _ _ _ _ _ _ _ _
   | exact ih3 _ _ _ _ _ _ _ _ _ _ _ _ _
   | exact ih4 _ _ _ _ _ _ _ _ _ _ _ _ _ _ _
   | exact ih5 _ _ _ _ _ _ _ _ _ _ _ _ _ _ _
   | exact LeO.none _
   | refine LeO.ite ?_ ?_
   | refine LeO.bind ?_ (fun _ => ?_)
  ·
   intro y0 y1 y2 y3 y4 y5 y6 y7 y8 y9 y10 y11 y12
   unfold clinkerlaw05_NandCounts.j3
   repeat' first
   | (with_reducible exact ih0 _ _ _ _ _ _ _)
   | (with_reducible exact ih1 _ _ _ _ _ _ _ _)
   | (with_reducible exact ih2 _ _ _ _ _ _ _ _ _ _ _ _)
   | (with_reducible exact ih3 _ _ _ _ _ _ _ _ _ _ _ _ _)
   | (with_reducible exact ih4 _ _ _ _ _ _ _ _ _ _ _ _ _ _ _)
   | (with_reducible exact ih5 _ _ _ _ _ _ _ _ _ _ _ _ _ _ _)
   | (with_reducible exact LeO.refl _)
   | (with_reducible exact LeO.none _)
   | (with_reducible refine LeO.ite ?_ ?_)
   | (with_reducible refine LeO.bind ?_ (fun _ => ?_))
   | exact ih0 _ _ _ _ _ _ _
   | exact ih1 _ _ _ _ _ _ _ _
   | exact ih2 _ _ _ _ _ _ _ _ _ _ _ _
   | exact ih3 _ _ _ _ _ _ _ _ _ _ _ _ _
   | exact ih4 _ _ _ _ _ _ _ _ _ _ _ _ _ _ _
   | exact ih5 _ _ _ _ _ _ _ _ _ _ _ _ _ _ _
   | exact LeO.none _
   | refine LeO.ite ?_ ?_
   | refine LeO.bind ?_ (fun _ => ?_)
  ·
   intro y0 y1 y2 y3 y4 y5 y6 y7 y8 y9 y10 y11 y12 y13 y14
   unfold clinkerlaw05_NandCounts.l1
   repeat' first
   | (with_reducible exact ih0 _ _ _ _ _ _ _)
   | (with_reducible exact ih1 _ _ _ _ _ _ _ _)
   | (with_reducible exact ih2 _ _ _ _ _ _ _ _ _ _ _ _)
   | (with_reducible exact ih3 _ _ _ _ _ _ _ _ _ _ _ _ _)
   | (with_reducible exact ih4 _ _ _ _ _ _ _ _ _ _ _ _ _ _ _)
   | (with_reducible exact ih5 _ _ _ _ _ _ _ _ _ _ _ _ _ _ _)
   | (with_reducible exact LeO.refl _)
   | (with_reducible exact LeO.none _)
   | (with_reducible refine LeO.ite ?_ ?_)
   | (with_reducible refine LeO.bind ?_ (fun _ => ?_))
   | exact ih0 _ _ _ _ _ _ _
   | exact ih1 _ _ _ _ _ _ _ _
   | exact ih2 _ _ _ _ _ _ _ _ _ _ _ _
   | exact ih3 _ _ _ _ _ _ _ _ _ _ _ _ _
   | exact ih4 _ _ _ _ _ _ _ _ _ _ _ _ _ _ _
   | exact ih5 _ _ _ _ _ _ _ _ _ _ _ _ _ _ _
   | exact LeO.none _
   | refine LeO.ite ?_ ?_
   | refine LeO.bind ?_ (fun _ => ?_)
  ·
   intro y0 y1 y2 y3 y4 y5 y6 y7 y8 y9 y10 y11 y12 y13 y14
   unfold clinkerlaw05_NandCounts.j5
   repeat' first
   | (with_reducible exact ih0 _ _ _ _ _ _ _)
   | (with_reducible exact ih1 _ _ _ _ _ _ _ _)
   | (with_reducible exact ih2 _ _ _ _ _ _ _ _ _ _ _ _)
   | (with_reducible exact ih3 _ _ _ _ _ _ _ _ _ _ _ _ _)
   | (with_reducible exact ih4 _ _ _ _ _ _ _ _ _ _ _ _ _ _ _)
   | (with_reducible exact ih5 _ _ _ _ _ _ _ _ _ _ _ _ _ _ _)
   | (with_reducible exact LeO.refl _)
   | (with_reducible exact LeO.none _)
   | (with_reducible refine LeO.ite ?_ ?_)
   | (with_reducible refine LeO.bind ?_ (fun _ => ?_))
   | exact ih0 _ _ _ _ _ _ _
   | exact ih1 _ _ _ _ _ _ _ _
   | exact ih2 _ _ _ _ _ _ _ _ _ _ _ _
   | exact ih3 _ _ _ _ _ _ _ _ _ _ _ _ _
   | exact ih4 _ _ _ _ _ _ _ _ _ _ _ _ _ _ _
   | exact ih5 _ _ _ _ _ _ _ _ _ _ _ _ _ _ _
   | exact LeO.none _
   | refine LeO.ite ?_ ?_
   | refine LeO.bind ?_ (fun _ => ?_)
theorem clinkerlaw05_NandCounts.mono : ∀ a0 a1 k, LeO (clinkerlaw05_NandCounts.f k a0 a1) (clinkerlaw05_NandCounts.f (k + 1) a0 a1) := by
 intro a0 a1 k
 obtain ⟨ih0, ih1, ih2, ih3, ih4, ih5⟩ := clinkerlaw05_NandCounts.mono_l k
 unfold clinkerlaw05_NandCounts.f
 repeat' first
   | (with_reducible exact ih0 _ _ _ _ _ _ _)
   | (with_reducible exact ih1 _ _ _ _ _ _ _ _)
   | (with_reducible exact ih2 _ _ _ _ _ _ _ _ _ _ _ _)
   | (with_reducible exact ih3 _ _ _ _ _ _ _ _ _ _ _ _ _)
   | (with_reducible exact ih4 _ _ _ _ _ _ _ _ _ _ _ _ _ _ _)
   | (with_reducible exact ih5 _ _ _ _ _ _ _ _ _ _ _ _ _ _ _)
   | (with_reducible exact LeO.refl _)
   | (with_reducible exact LeO.none _)
   | (with_reducible refine LeO.ite ?_ ?_)
   | (with_reducible refine LeO.bind ?_ (fun _ => ?_))
   | exact ih0 _ _ _ _ _ _ _
   | exact ih1 _ _ _ _ _ _ _ _
   | exact ih2 _ _ _ _ _ _ _ _ _ _ _ _
   | exact ih3 _ _ _ _ _ _ _ _ _ _ _ _ _
   | exact ih4 _ _ _ _ _ _ _ _ _ _ _ _ _ _ _
   | exact ih5 _ _ _ _ _ _ _ _ _ _ _ _ _ _ _
   | exact LeO.none _
   | refine LeO.ite ?_ ?_
   | refine LeO.bind ?_ (fun _ => ?_)
def clinkerlaw05_NandCounts.T8 : Bool × List (List Nat × List Nat) := (true, [([], []), ([], []), ([0, 1], [0, 1]), ([2], [2]), ([3], [3]), ([4], [4]), ([5], [5]), ([], []), ([], []), ([7, 8], [7, 8]), ([9], [9]), ([10], [10]), ([], []), ([6, 11, 0, 1, 2, 3, 4, 5, 6, 12], [6]), ([12, 11, 13, 0, 1, 2, 3, 4, 5, 6, 7, 8, 9, 10, 11, 12, 13], [11, 12])])
def clinkerlaw05_NandCounts.B8 : List Nat := [0, 0, 3, 7, 15, 31, 63, 0, 0, 384, 896, 1920, 0, 8191, 16383]
theorem clinkerlaw05_NandCounts.tab8 : rtab .any (opsOf Try.f10 8) = clinkerlaw05_NandCounts.T8 := by kernel_rfl
theorem clinkerlaw05_NandCounts.bits8 : waitsOk clinkerlaw05_NandCounts.T8.2 clinkerlaw05_NandCounts.B8 = true := by kernel_rfl
def clinkerlaw05_NandCounts.T11 : Bool × List (List Nat × List Nat) := (true, [([], []), ([], []), ([], []), ([], []), ([2, 3], [2, 3]), ([4], [4]), ([5], [5]), ([6], [6]), ([7], [7]), ([], []), ([], []), ([0, 1, 8, 9, 10], [0, 1, 8, 9, 10]), ([11], [11]), ([12], [12]), ([12], [12]), ([13, 11, 0, 1, 2, 3, 4, 5, 6, 7, 8, 9, 10, 11, 12, 13], [13]), ([14, 15, 0, 1, 2, 3, 4, 5, 6, 7, 8, 9, 10, 11, 12, 13, 14, 15], [14])])
def clinkerlaw05_NandCounts.B11 : List Nat := [0, 0, 0, 0, 12, 28, 60, 124, 252, 0, 0, 2047, 4095, 8191, 8191, 16383, 65535]
theorem clinkerlaw05_NandCounts.tab11 : rtab .any (opsOf Try.f10 11) = clinkerlaw05_NandCounts.T11 := by kernel_rfl
theorem clinkerlaw05_NandCounts.bits11 : waitsOk clinkerlaw05_NandCounts.T11.2 clinkerlaw05_NandCounts.B11 = true := by kernel_rfl
def clinkerlaw05_NandCounts.T21 : Bool × List (List Nat × List Nat) := (true, [([], []), ([], []), ([1], [1]), ([], []), ([2, 3], [2, 3]), ([4], [4]), ([5], [5]), ([0, 6], [0, 6]), ([], []), ([8], [8]), ([], []), ([9, 10], [9, 10]), ([11], [11]), ([12], [12]), ([7, 13], [7, 13]), ([14, 0, 1, 2, 3, 4, 5, 6, 7, 8, 9, 10, 11, 12, 13, 14], [0, 14])])
def clinkerlaw05_NandCounts.B21 : List Nat := [0, 0, 2, 0, 14, 30, 62, 127, 0, 256, 0, 1792, 3840, 7936, 16383, 32767]
theorem clinkerlaw05_NandCounts.tab21 : rtab .any (opsOf Try.f10 21) = clinkerlaw05_NandCounts.T21 := by kernel_rfl
theorem clinkerlaw05_NandCounts.bits21 : waitsOk clinkerlaw05_NandCounts.T21.2 clinkerlaw05_NandCounts.B21 = true := by kernel_rfl
set_option maxHeartbeats 8000000 in
set_option maxRecDepth 100000 in
theorem clinkerlaw05_NandCounts.calls (k : Nat) (A0 : Option Addr) (c0 : Nat) (l0 : List (S37)) (a1 : Int) (r : Bool) (hrt : Aside0 (r = true)) (w : World) (hr0 : Kd.C k37 w A0 l0.length l0) (hc0 : l0.length ≤ c0) (h : clinkerlaw05_NandCounts.f k l0 a1 = some r) :
  Calls Try.prog 10 #[.slice A0 l0.length c0, .int .u8 a1] w fun e w' => e = .returned (.bool r) ∧ Below w.heap.size w w' := by
 have hu27 := Try.underlying27
 have hu37 := Try.underlying37
 have hu41 := Try.underlying41
 have hu46 := Try.underlying46
 have HR0 := Aside0.mk hr0
 have HC0 := Aside0.mk hc0
 clear hr0 hc0
 have HB := Aside0.mk (Below.refl w.heap.size w)
 have H : ((clinkerlaw05_awake.f).bind fun t261 => (if t261 = true then ((nand_New.f 3 (wrap64 (1 + (Int.tmod (wrap64 (a1)) 5))) ([] : List Int)).bind fun bt262 => (clinkerlaw05_NandCounts.l0 k l0 t261 0 bt262.1 bt262.2.1 bt262.2.2.1 bt262.2.2.2.1)) else (some false))) = some r := h
 clear h
 replace H := Option.bind_eq_some_iff.mp H
 obtain ⟨t261, A30, H⟩ := H
 replace H : (if t261 = true then ((nand_New.f 3 (wrap64 (1 + (Int.tmod (wrap64 (a1)) 5))) ([] : List Int)).bind fun bt262 => (clinkerlaw05_NandCounts.l0 k l0 t261 0 bt262.1 bt262.2.1 bt262.2.2.1 bt262.2.2.2.1)) else (some false)) = some r := H
 have A3 := Aside0.mk A30
 clear A30
 by_cases c4 : t261 = true
 ·
  subst c4
  have H1 : ((nand_New.f 3 (wrap64 (1 + (Int.tmod (wrap64 (a1)) 5))) ([] : List Int)).bind fun bt262 => (clinkerlaw05_NandCounts.l0 k l0 true 0 bt262.1 bt262.2.1 bt262.2.2.1 bt262.2.2.2.1)) = some r := by rw [if_pos rfl] at H; exact H
  clear H
  have H := H1
  clear H1
  replace H := Option.bind_eq_some_iff.mp H
  obtain ⟨⟨t262, t265, t266, t267, t268⟩, A50, H⟩ := H
  replace H : (clinkerlaw05_NandCounts.l0 k l0 true 0 t262 t265 t266 t267) = some r := H
  have A5 := Aside0.mk A50
  clear A50
  have H' := Aside0.mk H
  clear H
  go_enter Try.func10, Try.ntmps10
  go_wp2_with (first | ((with_reducible refine gate_callee (f := 11) rfl ?_); refine goesL_ (some 17) rfl rfl Try.func11 (by kernel_rfl) rfl #[] rfl (by (try simp only [List.map_toArray, List.map_cons, List.map_nil]); first | done | rfl | (simp only [List.length_drop, List.length_take]; rfl)) ?_; (with_reducible refine (clinkerlaw05_awake.calls  true _ A3.out).mono ?_); rintro e w6 ⟨rfl, hb⟩; refine ⟨_, rfl, ?_⟩; have n0_ := Aside0.mk (below_step (by repeat (first | exact HB.out | apply below_alloc | apply pw_below_drewN | apply below_drew1)) hb); clear HB; have HB := n0_; clear n0_; (try clear hb); (try clear hb2); (try clear hk); (try clear hi)) | ((with_reducible refine gate_callee (f := 12) rfl ?_); refine goesL_ (some 25) rfl rfl Try.func12 (by kernel_rfl) rfl #[.int .i64 3, .int .i64 (wrap64 (1 + (Int.tmod (wrap64 (a1)) 5))), .slice none 0 0] rfl (by (try simp only [List.map_toArray, List.map_cons, List.map_nil]); first | done | rfl | (simp only [List.length_drop, List.length_take]; rfl)) ?_; (refine (nand_New.calls 3 (wrap64 (1 + (Int.tmod (wrap64 (a1)) 5))) _ _ ([] : List Int) t262 t265 t266 t267 t268 _ ?side1 ?side2 A5.out).mono ?_); (case side1 => exact Kd.C_nil _ _); (case side2 => exact Nat.le_refl _); rintro e w7 ⟨v263, rfl, ho0, hb⟩; refine ⟨_, rfl, ?_⟩; have n0_ := Aside0.mk (Kd.V_lower (Kd.V_mono (ok' := fun k_ => True) ho0 (fun k_ hk_ => trivial)) (below_size (by repeat (first | exact HB.out | apply below_alloc | apply pw_below_drewN | apply below_drew1)))); have n1_ := Aside0.mk (below_step (by repeat (first | exact HB.out | apply below_alloc | apply pw_below_drewN | apply below_drew1)) hb); clear HB; have HO264 := n0_; have HB := n1_; clear n0_ n1_; (try clear hb); (try clear hb2); (try clear hk); (try clear hi); (try clear ho0)) | ((with_reducible refine gate_dst (N := 6) rfl ?_); refine box_event ?hg (N := 6) ?hd (cs := #[.slice none 0 0, .bool false, .bool false, .int .i64 0]) (t := 27) ?hr ?_; (case hd => rfl); (case hg => rfl); (case hr => first | (go_simp; done) | (go_simp; rfl)); intro gb269 hg w8 hbox hb; have n0_ := Aside0.mk (Kd.V_below (Kd.V_elderB (by (with_reducible repeat (first | apply Kd.V_alloc | apply Kd.V_drewN | apply Kd.V_drew)); exact HO264.out) gb269 (Nat.le_of_eq hg.symm)) hb); have n1_ := Aside0.mk (below_step (by repeat (first | exact HB.out | apply below_alloc | apply pw_below_drewN | apply below_drew1)) hb); have n2_ := Aside0.mk (hbox); have n3_ := Aside0.mk ((by rw [hg]; exact (below_size (by repeat (first | exact HB.out | apply below_alloc | apply pw_below_drewN | apply below_drew1))) : w.heap.size ≤ gb269)); have n4_ := Aside0.mk ((by rw [hg]; exact (below_size (by repeat (first | exact HB.out | apply below_alloc | apply pw_below_drewN | apply below_drew1))) : w.heap.size ≤ gb269)); clear HO264; clear HB; have HO264 := n0_; have HB := n1_; have BK269 := n2_; have GW269 := n3_; have GE269 := n4_; clear n0_ n1_ n2_ n3_ n4_; clear hb hbox hg; obtain ⟨Ao9, co9, eo9⟩ := Kd.V_slice HO264.out; subst eo9; have hcz10_0 : w8.cell? ⟨gb269, 0, none⟩ = some (.slice none 0 0) := (blk_cell BK269.out 0).trans rfl; have hcz10_1 : w8.cell? ⟨gb269, 1, none⟩ = some (.bool false) := (blk_cell BK269.out 1).trans rfl; have hcz10_2 : w8.cell? ⟨gb269, 2, none⟩ = some (.bool false) := (blk_cell BK269.out 2).trans rfl; have hcz10_3 : w8.cell? ⟨gb269, 3, none⟩ = some (.int .i64 0) := (blk_cell BK269.out 3).trans rfl; have hfz10_0 := blk_frozen BK269.out 0; have hfz10_1 := blk_frozen BK269.out 1; have hfz10_2 := blk_frozen BK269.out 2; have hfz10_3 := blk_frozen BK269.out 3))
  go_loopg [8] k (fun kq v8 w' => ∃ (x8_1 : Int) (x270000_1 : List (S44)) (x270001_1 : Bool) (x270002_1 : Bool) (x270003_1 : Int) (u270000 : Value), v8 = .int .i64 x8_1 ∧ Aside0 (clinkerlaw05_NandCounts.l0 kq l0 true x8_1 x270000_1 x270001_1 x270002_1 x270003_1 = some r) ∧ Aside0 (kq ≤ k) ∧ Aside0 (Kd.V k44 44 w' w.heap.size (fun k_ => k_ ≠ gb269) u270000 x270000_1) ∧ Aside0 (w'.heap[gb269]? = some (.cells #[u270000, .bool x270001_1, .bool x270002_1, .int .i64 x270003_1] 27 (0, 0))) ∧ Aside0 (Below w.heap.size w w'))
  case atStart => exact ⟨(0), (t262), (t265), (t266), (t267), (.slice Ao9 t262.length co9), (by first | rfl | (simp; done) | (simp [*]; done)), H', ⟨Nat.le_refl _⟩, ⟨by (with_reducible repeat (first | apply Kd.V_alloc | apply Kd.V_drewN | apply Kd.V_drew)); exact Kd.V_mono (Kd.V_far (p := ⟨gb269, 3, none⟩) (Kd.V_far (p := ⟨gb269, 2, none⟩) (Kd.V_far (p := ⟨gb269, 1, none⟩) (Kd.V_far (p := ⟨gb269, 0, none⟩) (Kd.V_mono HO264.out (fun k_ hk => (⟨hk, hk.2⟩ : _ ∧ k_ ≠ gb269))) (fun _ hk => hk.2) _) (fun _ hk => hk.2) (.bool t265)) (fun _ hk => hk.2) (.bool t266)) (fun _ hk => hk.2) _) (fun _ hk => hk.1.2)⟩, ⟨by (with_reducible repeat (first | apply blk_drewN | apply blk_drew | apply blk_alloc)); refine blk_put (cs := #[.slice Ao9 t262.length co9, .bool t265, .bool t266, .int .i64 0]) ?_ 3 _ rfl; (with_reducible repeat (first | apply blk_drewN | apply blk_drew | apply blk_alloc)); refine blk_put (cs := #[.slice Ao9 t262.length co9, .bool t265, .bool false, .int .i64 0]) ?_ 2 _ rfl; (with_reducible repeat (first | apply blk_drewN | apply blk_drew | apply blk_alloc)); refine blk_put (cs := #[.slice Ao9 t262.length co9, .bool false, .bool false, .int .i64 0]) ?_ 1 _ rfl; (with_reducible repeat (first | apply blk_drewN | apply blk_drew | apply blk_alloc)); refine blk_put (cs := #[.slice none 0 0, .bool false, .bool false, .int .i64 0]) ?_ 0 _ rfl; (with_reducible repeat (first | apply blk_drewN | apply blk_drew | apply blk_alloc)); exact BK269.out⟩, ⟨by repeat (first | exact HB.out | apply below_alloc | apply pw_below_drewN | apply below_drew1 | refine below_set ?_ GE269.out)⟩⟩
  case round =>
   clear H'
   try clear c1
   try clear p2
   try clear c4
   try clear p6
   try clear c10
   try clear hcz10_0
   try clear hcz10_1
   try clear hcz10_2
   try clear hcz10_3
   try clear hfz10_0
   try clear hfz10_1
   try clear hfz10_2
   try clear hfz10_3
   obtain ⟨x8_1, x270000_1, x270001_1, x270002_1, x270003_1, u270000, rfl, HA, HK1, HO_270000, BK269, HB⟩ := hrel
   cases gk with
   | zero => exact absurd HA.out (by simp [clinkerlaw05_NandCounts.l0])
   | succ k1 =>
    have H := HA.out
    clear HA
    simp only [clinkerlaw05_NandCounts.l0] at H
    have HC11 := Aside0.mk H
    clear H
    go_upto_region 6 with (fail)
    go_cut [35] (fun v35 wc => ∃ (kq : Nat) (x35_10 : Bool), v35 = .bool x35_10 ∧ Aside0 (clinkerlaw05_NandCounts.j1 kq l0 true x8_1 x35_10 x270000_1 x270001_1 x270002_1 x270003_1 = some r) ∧ Aside0 (kq ≤ k1) ∧ Aside0 (Kd.V k44 44 wc w.heap.size (fun k_ => k_ ≠ gb269) u270000 x270000_1) ∧ Aside0 (wc.heap[gb269]? = some (.cells #[u270000, .bool x270001_1, .bool x270002_1, .int .i64 x270003_1] 27 (0, 0))) ∧ Aside0 (Below w.heap.size w wc))
    case first =>
     have H := HC11.out
     clear HC11
     by_cases c12 : x8_1 < (l0.length : Int)
     ·
      rw [if_pos c12] at H
      have c12b0 : decide (x8_1 < (l0.length : Int)) = true := decide_eq_true c12
      clear c12
      (first | rw [c12b0] | (simp only [i64_w, i32_w]; rw [c12b0]) | skip)
      have H' := Aside0.mk H
      clear H
      go_wp2
      go_meet
      case rel => exact ⟨_, (decide (x8_1 < 12)), (by first | rfl | (simp; done) | (simp [*]; done)), H', ⟨by have := HK1.out; first | omega | exact Nat.le_refl _⟩, ⟨by (with_reducible repeat (first | apply Kd.V_alloc | apply Kd.V_drewN | apply Kd.V_drew)); exact HO_270000.out⟩, ⟨by (with_reducible repeat (first | apply blk_drewN | apply blk_drew | apply blk_alloc)); exact BK269.out⟩, ⟨by repeat (first | exact HB.out | apply below_alloc | apply pw_below_drewN | apply below_drew1 | refine below_set ?_ GE269.out)⟩⟩
     ·
      rw [if_neg c12] at H
      have c12b0 : decide (x8_1 < (l0.length : Int)) = false := decide_eq_false c12
      clear c12
      (first | rw [c12b0] | (simp only [i64_w, i32_w]; rw [c12b0]) | skip)
      have H' := Aside0.mk H
      clear H
      go_wp2
      go_meet
      case rel => exact ⟨_, (false), (by first | rfl | (simp; done) | (simp [*]; done)), H', ⟨by have := HK1.out; first | omega | exact Nat.le_refl _⟩, ⟨by (with_reducible repeat (first | apply Kd.V_alloc | apply Kd.V_drewN | apply Kd.V_drew)); exact HO_270000.out⟩, ⟨by (with_reducible repeat (first | apply blk_drewN | apply blk_drew | apply blk_alloc)); exact BK269.out⟩, ⟨by repeat (first | exact HB.out | apply below_alloc | apply pw_below_drewN | apply below_drew1 | refine below_set ?_ GE269.out)⟩⟩
    case rest =>
     clear HC11
     try clear c1
     try clear p2
     try clear c4
     try clear p6
     try clear c10
     try clear c11
     try clear c12
     try clear c12b0
     try clear hcz10_0
     try clear hcz10_1
     try clear hcz10_2
     try clear hcz10_3
     try clear hfz10_0
     try clear hfz10_1
     try clear hfz10_2
     try clear hfz10_3
     try clear p2
     try clear p6
     obtain ⟨kq, x35_10, rfl, HA, HJ10, HO_270000, BK269, HB⟩ := hcut
     cases kq with
     | zero => exact absurd HA.out (by simp [clinkerlaw05_NandCounts.j1])
     | succ kj10 =>
      have H := HA.out
      clear HA
      simp only [clinkerlaw05_NandCounts.j1] at H
      by_cases c13 : x35_10 = true
      ·
       subst c13
       have H1 : (if 0 ≤ x8_1 then (if x8_1 < (l0.length : Int) then ((clinkerlaw05_Fate.f ((rd_T37 l0 x8_1).f0) ((rd_T37 l0 x8_1).f1) ((rd_T37 l0 x8_1).f2) ((rd_T37 l0 x8_1).f3) ((rd_T37 l0 x8_1).f4) ((rd_T37 l0 x8_1).f5)).bind fun bt272 => ((nand_Erase.f x270000_1 x270001_1 x270002_1 x270003_1 (Int.tmod (wrap64 ((rd_T37 l0 x8_1).f1)) 4) bt272.1 bt272.2.1 bt272.2.2.1 bt272.2.2.2).bind fun bt277 => (if (Int.tmod ((rd_T37 l0 x8_1).f0) 3) > 0 then ((nand_Program.f x270000_1 x270001_1 x270002_1 x270003_1 (Int.tmod (wrap64 ((rd_T37 l0 x8_1).f1)) 4) (Int.tmod (wrap64 ((rd_T37 l0 x8_1).f2)) 5) false (⟨#[]⟩ : ByteArray) (⟨#[]⟩ : ByteArray) bt272.1 bt272.2.1 bt272.2.2.1 bt272.2.2.2).bind fun bt287 => (clinkerlaw05_NandCounts.j2 kj10 l0 true x8_1 bt287.2.2.2.2 x270000_1 x270001_1 x270002_1 x270003_1 bt287.1 bt287.2.1 bt287.2.2.1 bt287.2.2.2.1)) else (clinkerlaw05_NandCounts.j2 kj10 l0 true x8_1 bt277.2.2.2.2 x270000_1 x270001_1 x270002_1 x270003_1 bt277.1 bt277.2.1 bt277.2.2.1 bt277.2.2.2.1)))) else (none)) else (none)) = some r := by rw [if_pos rfl] at H; exact H
       clear H
       have H := H1
       clear H1
       by_cases c14 : 0 ≤ x8_1
       ·
        rw [if_pos c14] at H
        have c14b0 : decide (0 ≤ x8_1) = true := decide_eq_true c14
        clear c14
        by_cases c15 : x8_1 < (l0.length : Int)
        ·
         rw [if_pos c15] at H
         have c15b0 : decide (x8_1 < (l0.length : Int)) = true := decide_eq_true c15
         clear c15
         replace H := Option.bind_eq_some_iff.mp H
         obtain ⟨⟨t272, t273, t274, t275⟩, A160, H⟩ := H
         replace H : ((nand_Erase.f x270000_1 x270001_1 x270002_1 x270003_1 (Int.tmod (wrap64 ((rd_T37 l0 x8_1).f1)) 4) t272 t273 t274 t275).bind fun bt277 => (if (Int.tmod ((rd_T37 l0 x8_1).f0) 3) > 0 then ((nand_Program.f x270000_1 x270001_1 x270002_1 x270003_1 (Int.tmod (wrap64 ((rd_T37 l0 x8_1).f1)) 4) (Int.tmod (wrap64 ((rd_T37 l0 x8_1).f2)) 5) false (⟨#[]⟩ : ByteArray) (⟨#[]⟩ : ByteArray) t272 t273 t274 t275).bind fun bt287 => (clinkerlaw05_NandCounts.j2 kj10 l0 true x8_1 bt287.2.2.2.2 x270000_1 x270001_1 x270002_1 x270003_1 bt287.1 bt287.2.1 bt287.2.2.1 bt287.2.2.2.1)) else (clinkerlaw05_NandCounts.j2 kj10 l0 true x8_1 bt277.2.2.2.2 x270000_1 x270001_1 x270002_1 x270003_1 bt277.1 bt277.2.1 bt277.2.2.1 bt277.2.2.2.1))) = some r := H
         have A16 := Aside0.mk A160
         clear A160
         replace H := Option.bind_eq_some_iff.mp H
         obtain ⟨⟨t277, t280, t281, t282, t283⟩, A170, H⟩ := H
         replace H : (if (Int.tmod ((rd_T37 l0 x8_1).f0) 3) > 0 then ((nand_Program.f x270000_1 x270001_1 x270002_1 x270003_1 (Int.tmod (wrap64 ((rd_T37 l0 x8_1).f1)) 4) (Int.tmod (wrap64 ((rd_T37 l0 x8_1).f2)) 5) false (⟨#[]⟩ : ByteArray) (⟨#[]⟩ : ByteArray) t272 t273 t274 t275).bind fun bt287 => (clinkerlaw05_NandCounts.j2 kj10 l0 true x8_1 bt287.2.2.2.2 x270000_1 x270001_1 x270002_1 x270003_1 bt287.1 bt287.2.1 bt287.2.2.1 bt287.2.2.2.1)) else (clinkerlaw05_NandCounts.j2 kj10 l0 true x8_1 t283 x270000_1 x270001_1 x270002_1 x270003_1 t277 t280 t281 t282)) = some r := H
         have A17 := Aside0.mk A170
         clear A170
         have HC18 := Aside0.mk H
         clear H
         try go_wp2
         have n0_ := Aside0.mk (Kd.V_drew HO_270000.out)
         have n1_ := Aside0.mk (blk_drew BK269.out)
         have n2_ := Aside0.mk (below_drew1 HB.out)
         clear HO_270000
         clear BK269
         clear HB
         have HO_270000 := n0_
         have BK269 := n1_
         have HB := n2_
         clear n0_ n1_ n2_
         have p270 : 0 ≤ (x8_1 : Int) := of_decide_eq_true (by first | (with_reducible assumption) | assumption)
         have q270 : x8_1 < (l0.length : Int) := of_decide_eq_true (by first | (with_reducible assumption) | assumption)
         obtain ⟨ad270, e270, hx270_0, hx270_1, hx270_2, hx270_3, hx270_4, hx270_5⟩ := at_T37 HR0.out x8_1 p270 q270
         have hw270_5 := hx270_5
         have hw270_4 := hx270_4
         have hw270_3 := hx270_3
         have hw270_2 := hx270_2
         have hw270_1 := hx270_1
         have hw270_0 := hx270_0
         cases e270
         replace hx270_0 := (HB.out.cell (World.block_lt_of_cell? w _ hx270_0)).trans hx270_0
         replace hx270_1 := (HB.out.cell (World.block_lt_of_cell? w _ hx270_1)).trans hx270_1
         replace hx270_2 := (HB.out.cell (World.block_lt_of_cell? w _ hx270_2)).trans hx270_2
         replace hx270_3 := (HB.out.cell (World.block_lt_of_cell? w _ hx270_3)).trans hx270_3
         replace hx270_4 := (HB.out.cell (World.block_lt_of_cell? w _ hx270_4)).trans hx270_4
         replace hx270_5 := (HB.out.cell (World.block_lt_of_cell? w _ hx270_5)).trans hx270_5
         replace p270 := eq_true p270
         replace q270 := eq_true q270
         have p271 : 0 ≤ (x8_1 : Int) := of_decide_eq_true (by first | (with_reducible assumption) | assumption)
         have q271 : x8_1 < (l0.length : Int) := of_decide_eq_true (by first | (with_reducible assumption) | assumption)
         obtain ⟨ad271, e271, hx271_0, hx271_1, hx271_2, hx271_3, hx271_4, hx271_5⟩ := at_T37 HR0.out x8_1 p271 q271
         have hw271_5 := hx271_5
         have hw271_4 := hx271_4
         have hw271_3 := hx271_3
         have hw271_2 := hx271_2
         have hw271_1 := hx271_1
         have hw271_0 := hx271_0
         obtain rfl : ad270 = ad271 := (by injection e271)
         replace hx271_0 := (HB.out.cell (World.block_lt_of_cell? w _ hx271_0)).trans hx271_0
         replace hx271_1 := (HB.out.cell (World.block_lt_of_cell? w _ hx271_1)).trans hx271_1
         replace hx271_2 := (HB.out.cell (World.block_lt_of_cell? w _ hx271_2)).trans hx271_2
         replace hx271_3 := (HB.out.cell (World.block_lt_of_cell? w _ hx271_3)).trans hx271_3
         replace hx271_4 := (HB.out.cell (World.block_lt_of_cell? w _ hx271_4)).trans hx271_4
         replace hx271_5 := (HB.out.cell (World.block_lt_of_cell? w _ hx271_5)).trans hx271_5
         replace p271 := eq_true p271
         replace q271 := eq_true q271
         refine start_ (n := 15) (S := fun w' => w'.cell? (ad270.add ((x8_1).toNat * 6)) = some (.int .u8 ((rd_T37 l0 x8_1).f0)) ∧ w'.cell? ⟨(ad270.add ((x8_1).toNat * 6)).block, (ad270.add ((x8_1).toNat * 6)).off + 1, none⟩ = some (.int .u8 ((rd_T37 l0 x8_1).f1)) ∧ w'.cell? ⟨(ad270.add ((x8_1).toNat * 6)).block, (ad270.add ((x8_1).toNat * 6)).off + 2, none⟩ = some (.int .u8 ((rd_T37 l0 x8_1).f2)) ∧ w'.cell? ⟨(ad270.add ((x8_1).toNat * 6)).block, (ad270.add ((x8_1).toNat * 6)).off + 3, none⟩ = some (.int .u8 ((rd_T37 l0 x8_1).f3)) ∧ w'.cell? ⟨(ad270.add ((x8_1).toNat * 6)).block, (ad270.add ((x8_1).toNat * 6)).off + 4, none⟩ = some (.string ((rd_T37 l0 x8_1).f4)) ∧ w'.cell? ⟨(ad270.add ((x8_1).toNat * 6)).block, (ad270.add ((x8_1).toNat * 6)).off + 5, none⟩ = some (.string ((rd_T37 l0 x8_1).f5)) ∧ w'.cell? (ad270.add ((x8_1).toNat * 6)) = some (.int .u8 ((rd_T37 l0 x8_1).f0)) ∧ w'.cell? ⟨(ad270.add ((x8_1).toNat * 6)).block, (ad270.add ((x8_1).toNat * 6)).off + 1, none⟩ = some (.int .u8 ((rd_T37 l0 x8_1).f1)) ∧ w'.cell? ⟨(ad270.add ((x8_1).toNat * 6)).block, (ad270.add ((x8_1).toNat * 6)).off + 2, none⟩ = some (.int .u8 ((rd_T37 l0 x8_1).f2)) ∧ w'.cell? ⟨(ad270.add ((x8_1).toNat * 6)).block, (ad270.add ((x8_1).toNat * 6)).off + 3, none⟩ = some (.int .u8 ((rd_T37 l0 x8_1).f3)) ∧ w'.cell? ⟨(ad270.add ((x8_1).toNat * 6)).block, (ad270.add ((x8_1).toNat * 6)).off + 4, none⟩ = some (.string ((rd_T37 l0 x8_1).f4)) ∧ w'.cell? ⟨(ad270.add ((x8_1).toNat * 6)).block, (ad270.add ((x8_1).toNat * 6)).off + 5, none⟩ = some (.string ((rd_T37 l0 x8_1).f5))) (ds := []) #[false, false, false, false, false, false, false, false, false, false, false, false, false, false, false] (by kernel_rfl) rfl rfl ⟨((HB.out.cell (World.block_lt_of_cell? w _ hw270_0)).trans hw270_0), ((HB.out.cell (World.block_lt_of_cell? w _ hw270_1)).trans hw270_1), ((HB.out.cell (World.block_lt_of_cell? w _ hw270_2)).trans hw270_2), ((HB.out.cell (World.block_lt_of_cell? w _ hw270_3)).trans hw270_3), ((HB.out.cell (World.block_lt_of_cell? w _ hw270_4)).trans hw270_4), ((HB.out.cell (World.block_lt_of_cell? w _ hw270_5)).trans hw270_5), ((HB.out.cell (World.block_lt_of_cell? w _ hw271_0)).trans hw271_0), ((HB.out.cell (World.block_lt_of_cell? w _ hw271_1)).trans hw271_1), ((HB.out.cell (World.block_lt_of_cell? w _ hw271_2)).trans hw271_2), ((HB.out.cell (World.block_lt_of_cell? w _ hw271_3)).trans hw271_3), ((HB.out.cell (World.block_lt_of_cell? w _ hw271_4)).trans hw271_4), ((HB.out.cell (World.block_lt_of_cell? w _ hw271_5)).trans hw271_5)⟩ (fun hHeld => ?_); refine with_tabW clinkerlaw05_NandCounts.tab8 clinkerlaw05_NandCounts.bits8 (fun HT_ HW_ => ?_)
         generalize wc.drew = w19 at HO_270000 BK269 HB hx270_0 hx270_1 hx270_2 hx270_3 hx270_4 hx270_5 hx271_0 hx271_1 hx271_2 hx271_3 hx271_4 hx271_5 hHeld ⊢
         refine pure_ (i := 0) (N := some 38) (v := ?_) (a' := ?_) #[true, false, false, false, false, false, false, false, false, false, false, false, false, false, false] rfl rfl (any_of HT_.out (by kernel_rfl)) (fun _ _ _ h => h) (Or.inl ⟨by rfl, ?_⟩) ?_ ?_
         rotate_left
         ·
          intro w'
          go_simp
          with_reducible rfl
         rotate_left
         ·
          simp only [Act.put, List.setIfInBounds_toArray, List.set_cons_zero, List.set_cons_succ, i64_w, i32_w]
          rfl
         refine pure_ (i := 1) (N := some 39) (v := ?_) (a' := ?_) #[true, true, false, false, false, false, false, false, false, false, false, false, false, false, false] rfl rfl (any_of HT_.out (by kernel_rfl)) (fun _ _ _ h => h) (Or.inl ⟨by rfl, ?_⟩) ?_ ?_
         rotate_left
         ·
          intro w'
          go_simp
          with_reducible rfl
         rotate_left
         ·
          simp only [Act.put, List.setIfInBounds_toArray, List.set_cons_zero, List.set_cons_succ, i64_w, i32_w]
          rfl
         refine pure_ (i := 2) (N := some 40) (v := ?_) (a' := ?_) #[true, true, true, false, false, false, false, false, false, false, false, false, false, false, false] rfl rfl (any_of HT_.out (by kernel_rfl)) (fun _ _ _ h => h) (Or.inl ⟨by rfl, ?_⟩) ?_ ?_
         rotate_left
         ·
          intro w'
          go_simp
          with_reducible rfl
         rotate_left
         ·
          simp only [Act.put, List.setIfInBounds_toArray, List.set_cons_zero, List.set_cons_succ, i64_w, i32_w]
          rfl
         refine pure_ (i := 3) (N := some 41) (v := ?_) (a' := ?_) #[true, true, true, true, false, false, false, false, false, false, false, false, false, false, false] rfl rfl (any_of HT_.out (by kernel_rfl)) (fun _ _ _ h => h) (Or.inl ⟨by rfl, ?_⟩) ?_ ?_
         rotate_left
         ·
          intro w'
          go_simp
          with_reducible rfl
         rotate_left
         ·
          simp only [Act.put, List.setIfInBounds_toArray, List.set_cons_zero, List.set_cons_succ, i64_w, i32_w]
          rfl
         refine pure_ (i := 7) (N := some 45) (v := ?_) (a' := ?_) #[true, true, true, true, false, false, false, true, false, false, false, false, false, false, false] rfl rfl (any_of HT_.out (by kernel_rfl)) (fun _ _ _ h => h) (Or.inl ⟨by rfl, ?_⟩) ?_ ?_
         rotate_left
         ·
          intro w'
          go_simp
          with_reducible rfl
         rotate_left
         ·
          simp only [Act.put, List.setIfInBounds_toArray, List.set_cons_zero, List.set_cons_succ, i64_w, i32_w]
          rfl
         refine pure_ (i := 8) (N := some 46) (v := ?_) (a' := ?_) #[true, true, true, true, false, false, false, true, true, false, false, false, false, false, false] rfl rfl (any_of HT_.out (by kernel_rfl)) (fun _ _ _ h => h) (Or.inl ⟨by rfl, ?_⟩) ?_ ?_
         rotate_left
         ·
          intro w'
          go_simp
          with_reducible rfl
         rotate_left
         ·
          simp only [Act.put, List.setIfInBounds_toArray, List.set_cons_zero, List.set_cons_succ, i64_w, i32_w]
          rfl
         refine pure_ (i := 9) (N := some 47) (v := ?_) (a' := ?_) #[true, true, true, true, false, false, false, true, true, true, false, false, false, false, false] rfl rfl (any_of HT_.out (by kernel_rfl)) (fun _ _ _ h => h) (Or.inl ⟨by rfl, ?_⟩) ?_ ?_
         rotate_left
         ·
          intro w'
          go_simp
          with_reducible rfl
         rotate_left
         ·
          simp only [Act.put, List.setIfInBounds_toArray, List.set_cons_zero, List.set_cons_succ, i64_w, i32_w]
          rfl
         refine take_ (i := 4) (N := some 42) (v := ?_) (a' := ?_) #[true, true, true, true, true, false, false, true, true, true, false, false, false, false, false] rfl rfl (take_ofW HT_.out HW_.out (by kernel_rfl)) (fun _ _ _ h => h) (Or.inl ⟨by rfl, ?_⟩) hHeld ?_ ?_
         rotate_left
         ·
          rintro w' ⟨s0, s1, s2, s3, s4, s5, s6, s7, s8, s9, s10, s11⟩
          go_simp
          with_reducible rfl
         rotate_left
         ·
          simp only [Act.put, List.setIfInBounds_toArray, List.set_cons_zero, List.set_cons_succ, i64_w, i32_w]
          rfl
         refine pure_ (i := 5) (N := some 43) (v := ?_) (a' := ?_) #[true, true, true, true, true, true, false, true, true, true, false, false, false, false, false] rfl rfl (any_of HT_.out (by kernel_rfl)) (fun _ _ _ h => h) (Or.inl ⟨by rfl, ?_⟩) ?_ ?_
         rotate_left
         ·
          intro w'
          go_simp
          with_reducible rfl
         rotate_left
         ·
          simp only [Act.put, List.setIfInBounds_toArray, List.set_cons_zero, List.set_cons_succ, i64_w, i32_w]
          rfl
         refine pure_ (i := 6) (N := some 44) (v := ?_) (a' := ?_) #[true, true, true, true, true, true, true, true, true, true, false, false, false, false, false] rfl rfl (any_of HT_.out (by kernel_rfl)) (fun _ _ _ h => h) (Or.inl ⟨by rfl, ?_⟩) ?_ ?_
         rotate_left
         ·
          intro w'
          go_simp
          with_reducible rfl
         rotate_left
         ·
          simp only [Act.put, List.setIfInBounds_toArray, List.set_cons_zero, List.set_cons_succ, i64_w, i32_w]
          rfl
         refine take_ (i := 10) (N := some 48) (v := ?_) (a' := ?_) #[true, true, true, true, true, true, true, true, true, true, true, false, false, false, false] rfl rfl (take_ofW HT_.out HW_.out (by kernel_rfl)) (fun _ _ _ h => h) (Or.inl ⟨by rfl, ?_⟩) hHeld ?_ ?_
         rotate_left
         ·
          rintro w' ⟨s0, s1, s2, s3, s4, s5, s6, s7, s8, s9, s10, s11⟩
          go_simp
          with_reducible rfl
         rotate_left
         ·
          simp only [Act.put, List.setIfInBounds_toArray, List.set_cons_zero, List.set_cons_succ, i64_w, i32_w]
          rfl
         refine join_ (σ := Nat) 2 #[true, true, true, true, true, true, true, true, true, true, true, true, true, false, false] (fun s_ => [(49, .agg #[.int .i64 t272, .string t273, .string t274, .int .i64 t275]), (10, .pointer (some ⟨s_, 0, none⟩))]) (fun s_ w' => (w'.cell? (ad270.add ((x8_1).toNat * 6)) = some (.int .u8 ((rd_T37 l0 x8_1).f0)) ∧ w'.cell? ⟨(ad270.add ((x8_1).toNat * 6)).block, (ad270.add ((x8_1).toNat * 6)).off + 1, none⟩ = some (.int .u8 ((rd_T37 l0 x8_1).f1)) ∧ w'.cell? ⟨(ad270.add ((x8_1).toNat * 6)).block, (ad270.add ((x8_1).toNat * 6)).off + 2, none⟩ = some (.int .u8 ((rd_T37 l0 x8_1).f2)) ∧ w'.cell? ⟨(ad270.add ((x8_1).toNat * 6)).block, (ad270.add ((x8_1).toNat * 6)).off + 3, none⟩ = some (.int .u8 ((rd_T37 l0 x8_1).f3)) ∧ w'.cell? ⟨(ad270.add ((x8_1).toNat * 6)).block, (ad270.add ((x8_1).toNat * 6)).off + 4, none⟩ = some (.string ((rd_T37 l0 x8_1).f4)) ∧ w'.cell? ⟨(ad270.add ((x8_1).toNat * 6)).block, (ad270.add ((x8_1).toNat * 6)).off + 5, none⟩ = some (.string ((rd_T37 l0 x8_1).f5)) ∧ w'.cell? (ad270.add ((x8_1).toNat * 6)) = some (.int .u8 ((rd_T37 l0 x8_1).f0)) ∧ w'.cell? ⟨(ad270.add ((x8_1).toNat * 6)).block, (ad270.add ((x8_1).toNat * 6)).off + 1, none⟩ = some (.int .u8 ((rd_T37 l0 x8_1).f1)) ∧ w'.cell? ⟨(ad270.add ((x8_1).toNat * 6)).block, (ad270.add ((x8_1).toNat * 6)).off + 2, none⟩ = some (.int .u8 ((rd_T37 l0 x8_1).f2)) ∧ w'.cell? ⟨(ad270.add ((x8_1).toNat * 6)).block, (ad270.add ((x8_1).toNat * 6)).off + 3, none⟩ = some (.int .u8 ((rd_T37 l0 x8_1).f3)) ∧ w'.cell? ⟨(ad270.add ((x8_1).toNat * 6)).block, (ad270.add ((x8_1).toNat * 6)).off + 4, none⟩ = some (.string ((rd_T37 l0 x8_1).f4)) ∧ w'.cell? ⟨(ad270.add ((x8_1).toNat * 6)).block, (ad270.add ((x8_1).toNat * 6)).off + 5, none⟩ = some (.string ((rd_T37 l0 x8_1).f5))) ∧ (Kd.V k44 44 w' w.heap.size (fun k_ => k_ ≠ gb269 ∧ k_ ≠ s_) u270000 x270000_1) ∧ (w'.heap[gb269]? = some (.cells #[u270000, .bool x270001_1, .bool x270002_1, .int .i64 x270003_1] 27 (0, 0))) ∧ (w'.heap[s_]? = some (.cells #[.int .i64 0, .string (⟨#[]⟩ : ByteArray), .string (⟨#[]⟩ : ByteArray), .int .i64 0] 41 (0, 0))) ∧ (w.heap.size ≤ s_) ∧ (w.heap.size ≤ s_) ∧ (gb269 ≠ s_) ∧ (s_ ≠ gb269) ∧ (Below w.heap.size w w')) ?_ ?_
         rotate_left
         ·
          intro hCont
          refine two_ (i := 11) (j := 12) (Ni := some 49) (Nj := some 10) #[true, true, true, true, true, true, true, true, true, true, true, true, false, false, false] #[true, true, true, true, true, true, true, true, true, true, true, false, true, false, false] rfl rfl rfl rfl (two_of HT_.out (by kernel_rfl)) (by decide) (by decide) (fun K hK => ?_) (fun K hK => ?_)
          ·
           skip
           refine goes_ Try.func21 (by kernel_rfl) rfl #[.agg #[.int .u8 ((rd_T37 l0 x8_1).f0), .int .u8 ((rd_T37 l0 x8_1).f1), .int .u8 ((rd_T37 l0 x8_1).f2), .int .u8 ((rd_T37 l0 x8_1).f3), .string ((rd_T37 l0 x8_1).f4), .string ((rd_T37 l0 x8_1).f5)]] (by rfl) rfl rfl (by (try simp only [List.map_toArray, List.map_cons, List.map_nil]); first | done | rfl | (simp only [List.length_drop, List.length_take]; rfl)) ?_
           with_reducible refine (clinkerlaw05_Fate.calls ((rd_T37 l0 x8_1).f0) ((rd_T37 l0 x8_1).f1) ((rd_T37 l0 x8_1).f2) ((rd_T37 l0 x8_1).f3) ((rd_T37 l0 x8_1).f4) ((rd_T37 l0 x8_1).f5) t272 t273 t274 t275 _ A16.out).mono ?_
           rintro e w20 ⟨rfl, hb⟩
           refine ⟨_, rfl, ?_⟩
           have n0_ := Aside0.mk (Kd.V_below (by (with_reducible repeat (first | apply Kd.V_alloc | apply Kd.V_drewN | apply Kd.V_drew)); exact HO_270000.out) hb)
           have n1_ := Aside0.mk (blk_below (g := gb269) (o := .cells #[u270000, .bool x270001_1, .bool x270002_1, .int .i64 x270003_1] 27 (0, 0)) (by (with_reducible repeat (first | apply blk_drewN | apply blk_drew | apply blk_alloc)); exact BK269.out) hb)
           have n2_ := Aside0.mk (below_step (by repeat (first | exact HB.out | apply below_alloc | apply pw_below_drewN | apply below_drew1 | refine below_set ?_ GE269.out)) hb)
           clear HO_270000
           clear BK269
           clear HB
           have HO_270000 := n0_
           have BK269 := n1_
           have HB := n2_
           clear n0_ n1_ n2_
           (try clear hb)
           (try clear hb2)
           (try clear hk)
           (try clear hi)
           refine hK.out _ _ ⟨((HB.out.cell (World.block_lt_of_cell? w _ hw270_0)).trans hw270_0), ((HB.out.cell (World.block_lt_of_cell? w _ hw270_1)).trans hw270_1), ((HB.out.cell (World.block_lt_of_cell? w _ hw270_2)).trans hw270_2), ((HB.out.cell (World.block_lt_of_cell? w _ hw270_3)).trans hw270_3), ((HB.out.cell (World.block_lt_of_cell? w _ hw270_4)).trans hw270_4), ((HB.out.cell (World.block_lt_of_cell? w _ hw270_5)).trans hw270_5), ((HB.out.cell (World.block_lt_of_cell? w _ hw271_0)).trans hw271_0), ((HB.out.cell (World.block_lt_of_cell? w _ hw271_1)).trans hw271_1), ((HB.out.cell (World.block_lt_of_cell? w _ hw271_2)).trans hw271_2), ((HB.out.cell (World.block_lt_of_cell? w _ hw271_3)).trans hw271_3), ((HB.out.cell (World.block_lt_of_cell? w _ hw271_4)).trans hw271_4), ((HB.out.cell (World.block_lt_of_cell? w _ hw271_5)).trans hw271_5)⟩ (fun hHeld => ?_)
           clear hK K
           refine norm_ (a' := ?_) ?_ ?_
           rotate_left
           ·
            show Act.put _ (some 49) _ = _
            simp only [Act.put, List.setIfInBounds_toArray, List.set_cons_zero, List.set_cons_succ, i64_w, i32_w]
            rfl
           refine one_ (i := 12) (N := some 10) #[true, true, true, true, true, true, true, true, true, true, true, true, true, false, false] rfl rfl (one_of HT_.out (by kernel_rfl)) (by decide) (fun K hK => ?_)
           refine box_step ?hg (N := 10) ?hd (cs := #[.int .i64 0, .string (⟨#[]⟩ : ByteArray), .string (⟨#[]⟩ : ByteArray), .int .i64 0]) (t := 41) ?hr ?_; (case hd => rfl); (case hg => rfl); (case hr => first | (go_simp; done) | (go_simp; rfl))
           intro gb276 hg w21 hbox hb
           have n0_ := Aside0.mk (Kd.V_below (Kd.V_elderB (by (with_reducible repeat (first | apply Kd.V_alloc | apply Kd.V_drewN | apply Kd.V_drew)); exact HO_270000.out) gb276 (Nat.le_of_eq hg.symm)) hb)
           have n1_ := Aside0.mk (blk_below (g := gb269) (o := .cells #[u270000, .bool x270001_1, .bool x270002_1, .int .i64 x270003_1] 27 (0, 0)) (by (with_reducible repeat (first | apply blk_drewN | apply blk_drew | apply blk_alloc)); exact BK269.out) hb)
           have n2_ := Aside0.mk (below_step (by repeat (first | exact HB.out | apply below_alloc | apply pw_below_drewN | apply below_drew1 | refine below_set ?_ GE269.out)) hb)
           have n3_ := Aside0.mk (hbox)
           have n4_ := Aside0.mk ((by rw [hg]; exact (below_size (by repeat (first | exact HB.out | apply below_alloc | apply pw_below_drewN | apply below_drew1 | refine below_set ?_ GE269.out))) : w.heap.size ≤ gb276))
           have n5_ := Aside0.mk ((by rw [hg]; exact (below_size (by repeat (first | exact HB.out | apply below_alloc | apply pw_below_drewN | apply below_drew1 | refine below_set ?_ GE269.out))) : w.heap.size ≤ gb276))
           have n6_ := Aside0.mk ((by rw [hg]; exact Nat.ne_of_lt (blk_lt (g := gb269) (o := .cells #[u270000, .bool x270001_1, .bool x270002_1, .int .i64 x270003_1] 27 (0, 0)) (by (with_reducible repeat (first | apply blk_drewN | apply blk_drew | apply blk_alloc)); exact BK269.out)) : gb269 ≠ gb276))
           have n7_ := Aside0.mk ((by rw [hg]; exact Nat.ne_of_gt (blk_lt (g := gb269) (o := .cells #[u270000, .bool x270001_1, .bool x270002_1, .int .i64 x270003_1] 27 (0, 0)) (by (with_reducible repeat (first | apply blk_drewN | apply blk_drew | apply blk_alloc)); exact BK269.out)) : gb276 ≠ gb269))
           clear HO_270000
           clear BK269
           clear HB
           have HO_270000 := n0_
           have BK269 := n1_
           have HB := n2_
           have BK276 := n3_
           have GW276 := n4_
           have GE276 := n5_
           have NB269_276 := n6_
           have NB276_269 := n7_
           clear n0_ n1_ n2_ n3_ n4_ n5_ n6_ n7_
           clear hb hbox hg
           refine hK.out _ _ ⟨((HB.out.cell (World.block_lt_of_cell? w _ hw270_0)).trans hw270_0), ((HB.out.cell (World.block_lt_of_cell? w _ hw270_1)).trans hw270_1), ((HB.out.cell (World.block_lt_of_cell? w _ hw270_2)).trans hw270_2), ((HB.out.cell (World.block_lt_of_cell? w _ hw270_3)).trans hw270_3), ((HB.out.cell (World.block_lt_of_cell? w _ hw270_4)).trans hw270_4), ((HB.out.cell (World.block_lt_of_cell? w _ hw270_5)).trans hw270_5), ((HB.out.cell (World.block_lt_of_cell? w _ hw271_0)).trans hw271_0), ((HB.out.cell (World.block_lt_of_cell? w _ hw271_1)).trans hw271_1), ((HB.out.cell (World.block_lt_of_cell? w _ hw271_2)).trans hw271_2), ((HB.out.cell (World.block_lt_of_cell? w _ hw271_3)).trans hw271_3), ((HB.out.cell (World.block_lt_of_cell? w _ hw271_4)).trans hw271_4), ((HB.out.cell (World.block_lt_of_cell? w _ hw271_5)).trans hw271_5)⟩ (fun hHeld => ?_)
           clear hK K
           refine norm_ (a' := ?_) ?_ ?_
           rotate_left
           ·
            show Act.put _ (some 10) _ = _
            simp only [Act.put, List.setIfInBounds_toArray, List.set_cons_zero, List.set_cons_succ, i64_w, i32_w]
            rfl
           exact norm_ (by simp only [putAll, Act.put, List.setIfInBounds_toArray, List.set_cons_zero, List.set_cons_succ]) (hCont (gb276) _ ⟨hHeld, (by (with_reducible repeat (first | apply Kd.V_alloc | apply Kd.V_drewN | apply Kd.V_drew)); exact HO_270000.out), (by (with_reducible repeat (first | apply blk_drewN | apply blk_drew | apply blk_alloc)); exact BK269.out), (by (with_reducible repeat (first | apply blk_drewN | apply blk_drew | apply blk_alloc)); exact BK276.out), GW276.out, GE276.out, NB269_276.out, NB276_269.out, (by repeat (first | (with_reducible first | exact HB.out | apply below_alloc | apply pw_below_drewN | apply below_drew1 | refine below_set ?_ GE269.out | refine below_set ?_ GE276.out) | exact HB.out))⟩)
          ·
           skip
           refine box_step ?hg (N := 10) ?hd (cs := #[.int .i64 0, .string (⟨#[]⟩ : ByteArray), .string (⟨#[]⟩ : ByteArray), .int .i64 0]) (t := 41) ?hr ?_; (case hd => rfl); (case hg => rfl); (case hr => first | (go_simp; done) | (go_simp; rfl))
           intro gb276 hg w20 hbox hb
           have n0_ := Aside0.mk (Kd.V_below (Kd.V_elderB (by (with_reducible repeat (first | apply Kd.V_alloc | apply Kd.V_drewN | apply Kd.V_drew)); exact HO_270000.out) gb276 (Nat.le_of_eq hg.symm)) hb)
           have n1_ := Aside0.mk (blk_below (g := gb269) (o := .cells #[u270000, .bool x270001_1, .bool x270002_1, .int .i64 x270003_1] 27 (0, 0)) (by (with_reducible repeat (first | apply blk_drewN | apply blk_drew | apply blk_alloc)); exact BK269.out) hb)
           have n2_ := Aside0.mk (below_step (by repeat (first | exact HB.out | apply below_alloc | apply pw_below_drewN | apply below_drew1 | refine below_set ?_ GE269.out)) hb)
           have n3_ := Aside0.mk (hbox)
           have n4_ := Aside0.mk ((by rw [hg]; exact (below_size (by repeat (first | exact HB.out | apply below_alloc | apply pw_below_drewN | apply below_drew1 | refine below_set ?_ GE269.out))) : w.heap.size ≤ gb276))
           have n5_ := Aside0.mk ((by rw [hg]; exact (below_size (by repeat (first | exact HB.out | apply below_alloc | apply pw_below_drewN | apply below_drew1 | refine below_set ?_ GE269.out))) : w.heap.size ≤ gb276))
           have n6_ := Aside0.mk ((by rw [hg]; exact Nat.ne_of_lt (blk_lt (g := gb269) (o := .cells #[u270000, .bool x270001_1, .bool x270002_1, .int .i64 x270003_1] 27 (0, 0)) (by (with_reducible repeat (first | apply blk_drewN | apply blk_drew | apply blk_alloc)); exact BK269.out)) : gb269 ≠ gb276))
           have n7_ := Aside0.mk ((by rw [hg]; exact Nat.ne_of_gt (blk_lt (g := gb269) (o := .cells #[u270000, .bool x270001_1, .bool x270002_1, .int .i64 x270003_1] 27 (0, 0)) (by (with_reducible repeat (first | apply blk_drewN | apply blk_drew | apply blk_alloc)); exact BK269.out)) : gb276 ≠ gb269))
           clear HO_270000
           clear BK269
           clear HB
           have HO_270000 := n0_
           have BK269 := n1_
           have HB := n2_
           have BK276 := n3_
           have GW276 := n4_
           have GE276 := n5_
           have NB269_276 := n6_
           have NB276_269 := n7_
           clear n0_ n1_ n2_ n3_ n4_ n5_ n6_ n7_
           clear hb hbox hg
           refine hK.out _ _ ⟨((HB.out.cell (World.block_lt_of_cell? w _ hw270_0)).trans hw270_0), ((HB.out.cell (World.block_lt_of_cell? w _ hw270_1)).trans hw270_1), ((HB.out.cell (World.block_lt_of_cell? w _ hw270_2)).trans hw270_2), ((HB.out.cell (World.block_lt_of_cell? w _ hw270_3)).trans hw270_3), ((HB.out.cell (World.block_lt_of_cell? w _ hw270_4)).trans hw270_4), ((HB.out.cell (World.block_lt_of_cell? w _ hw270_5)).trans hw270_5), ((HB.out.cell (World.block_lt_of_cell? w _ hw271_0)).trans hw271_0), ((HB.out.cell (World.block_lt_of_cell? w _ hw271_1)).trans hw271_1), ((HB.out.cell (World.block_lt_of_cell? w _ hw271_2)).trans hw271_2), ((HB.out.cell (World.block_lt_of_cell? w _ hw271_3)).trans hw271_3), ((HB.out.cell (World.block_lt_of_cell? w _ hw271_4)).trans hw271_4), ((HB.out.cell (World.block_lt_of_cell? w _ hw271_5)).trans hw271_5)⟩ (fun hHeld => ?_)
           clear hK K
           refine norm_ (a' := ?_) ?_ ?_
           rotate_left
           ·
            show Act.put _ (some 10) _ = _
            simp only [Act.put, List.setIfInBounds_toArray, List.set_cons_zero, List.set_cons_succ, i64_w, i32_w]
            rfl
           refine one_ (i := 11) (N := some 49) #[true, true, true, true, true, true, true, true, true, true, true, true, true, false, false] rfl rfl (one_of HT_.out (by kernel_rfl)) (by decide) (fun K hK => ?_)
           refine goes_ Try.func21 (by kernel_rfl) rfl #[.agg #[.int .u8 ((rd_T37 l0 x8_1).f0), .int .u8 ((rd_T37 l0 x8_1).f1), .int .u8 ((rd_T37 l0 x8_1).f2), .int .u8 ((rd_T37 l0 x8_1).f3), .string ((rd_T37 l0 x8_1).f4), .string ((rd_T37 l0 x8_1).f5)]] (by rfl) rfl rfl (by (try simp only [List.map_toArray, List.map_cons, List.map_nil]); first | done | rfl | (simp only [List.length_drop, List.length_take]; rfl)) ?_
           with_reducible refine (clinkerlaw05_Fate.calls ((rd_T37 l0 x8_1).f0) ((rd_T37 l0 x8_1).f1) ((rd_T37 l0 x8_1).f2) ((rd_T37 l0 x8_1).f3) ((rd_T37 l0 x8_1).f4) ((rd_T37 l0 x8_1).f5) t272 t273 t274 t275 _ A16.out).mono ?_
           rintro e w21 ⟨rfl, hb⟩
           refine ⟨_, rfl, ?_⟩
           have n0_ := Aside0.mk (Kd.V_below (by (with_reducible repeat (first | apply Kd.V_alloc | apply Kd.V_drewN | apply Kd.V_drew)); exact HO_270000.out) hb)
           have n1_ := Aside0.mk (blk_below (g := gb269) (o := .cells #[u270000, .bool x270001_1, .bool x270002_1, .int .i64 x270003_1] 27 (0, 0)) (by (with_reducible repeat (first | apply blk_drewN | apply blk_drew | apply blk_alloc)); exact BK269.out) hb)
           have n2_ := Aside0.mk (blk_below (g := gb276) (o := .cells #[.int .i64 0, .string (⟨#[]⟩ : ByteArray), .string (⟨#[]⟩ : ByteArray), .int .i64 0] 41 (0, 0)) (by (with_reducible repeat (first | apply blk_drewN | apply blk_drew | apply blk_alloc)); exact BK276.out) hb)
           have n3_ := Aside0.mk (below_step (by repeat (first | (with_reducible first | exact HB.out | apply below_alloc | apply pw_below_drewN | apply below_drew1 | refine below_set ?_ GE269.out | refine below_set ?_ GE276.out) | exact HB.out)) hb)
           clear HO_270000
           clear BK269
           clear BK276
           clear HB
           have HO_270000 := n0_
           have BK269 := n1_
           have BK276 := n2_
           have HB := n3_
           clear n0_ n1_ n2_ n3_
           (try clear hb)
           (try clear hb2)
           (try clear hk)
           (try clear hi)
           refine hK.out _ _ ⟨((HB.out.cell (World.block_lt_of_cell? w _ hw270_0)).trans hw270_0), ((HB.out.cell (World.block_lt_of_cell? w _ hw270_1)).trans hw270_1), ((HB.out.cell (World.block_lt_of_cell? w _ hw270_2)).trans hw270_2), ((HB.out.cell (World.block_lt_of_cell? w _ hw270_3)).trans hw270_3), ((HB.out.cell (World.block_lt_of_cell? w _ hw270_4)).trans hw270_4), ((HB.out.cell (World.block_lt_of_cell? w _ hw270_5)).trans hw270_5), ((HB.out.cell (World.block_lt_of_cell? w _ hw271_0)).trans hw271_0), ((HB.out.cell (World.block_lt_of_cell? w _ hw271_1)).trans hw271_1), ((HB.out.cell (World.block_lt_of_cell? w _ hw271_2)).trans hw271_2), ((HB.out.cell (World.block_lt_of_cell? w _ hw271_3)).trans hw271_3), ((HB.out.cell (World.block_lt_of_cell? w _ hw271_4)).trans hw271_4), ((HB.out.cell (World.block_lt_of_cell? w _ hw271_5)).trans hw271_5)⟩ (fun hHeld => ?_)
           clear hK K
           refine norm_ (a' := ?_) ?_ ?_
           rotate_left
           ·
            show Act.put _ (some 49) _ = _
            simp only [Act.put, List.setIfInBounds_toArray, List.set_cons_zero, List.set_cons_succ, i64_w, i32_w]
            rfl
           exact norm_ (by simp only [putAll, Act.put, List.setIfInBounds_toArray, List.set_cons_zero, List.set_cons_succ]) (hCont (gb276) _ ⟨hHeld, (by (with_reducible repeat (first | apply Kd.V_alloc | apply Kd.V_drewN | apply Kd.V_drew)); exact HO_270000.out), (by (with_reducible repeat (first | apply blk_drewN | apply blk_drew | apply blk_alloc)); exact BK269.out), (by (with_reducible repeat (first | apply blk_drewN | apply blk_drew | apply blk_alloc)); exact BK276.out), GW276.out, GE276.out, NB269_276.out, NB276_269.out, (by repeat (first | (with_reducible first | exact HB.out | apply below_alloc | apply pw_below_drewN | apply below_drew1 | refine below_set ?_ GE269.out | refine below_set ?_ GE276.out) | exact HB.out))⟩)
         rintro gb276 w22 ⟨hS_, h0_, h1_, h2_, h3_, h4_, h5_, h6_, h7_⟩
         have n0_ : Aside0 (Kd.V k44 44 w22 w.heap.size (fun k_ => k_ ≠ gb269 ∧ k_ ≠ gb276) u270000 x270000_1) := ⟨h0_⟩
         have n1_ : Aside0 (w22.heap[gb269]? = some (.cells #[u270000, .bool x270001_1, .bool x270002_1, .int .i64 x270003_1] 27 (0, 0))) := ⟨h1_⟩
         have n2_ : Aside0 (w22.heap[gb276]? = some (.cells #[.int .i64 0, .string (⟨#[]⟩ : ByteArray), .string (⟨#[]⟩ : ByteArray), .int .i64 0] 41 (0, 0))) := ⟨h2_⟩
         have n3_ : Aside0 (w.heap.size ≤ gb276) := ⟨h3_⟩
         have n4_ : Aside0 (w.heap.size ≤ gb276) := ⟨h4_⟩
         have n5_ : Aside0 (gb269 ≠ gb276) := ⟨h5_⟩
         have n6_ : Aside0 (gb276 ≠ gb269) := ⟨h6_⟩
         have n7_ : Aside0 (Below w.heap.size w w22) := ⟨h7_⟩
         clear HO_270000
         clear BK269
         clear HB
         clear h0_ h1_ h2_ h3_ h4_ h5_ h6_ h7_
         have HO_270000 := n0_
         have BK269 := n1_
         have BK276 := n2_
         have GW276 := n3_
         have GE276 := n4_
         have NB269_276 := n5_
         have NB276_269 := n6_
         have HB := n7_
         clear n0_ n1_ n2_ n3_ n4_ n5_ n6_ n7_
         have hHeld : w22.cell? (ad270.add ((x8_1).toNat * 6)) = some (.int .u8 ((rd_T37 l0 x8_1).f0)) ∧ w22.cell? ⟨(ad270.add ((x8_1).toNat * 6)).block, (ad270.add ((x8_1).toNat * 6)).off + 1, none⟩ = some (.int .u8 ((rd_T37 l0 x8_1).f1)) ∧ w22.cell? ⟨(ad270.add ((x8_1).toNat * 6)).block, (ad270.add ((x8_1).toNat * 6)).off + 2, none⟩ = some (.int .u8 ((rd_T37 l0 x8_1).f2)) ∧ w22.cell? ⟨(ad270.add ((x8_1).toNat * 6)).block, (ad270.add ((x8_1).toNat * 6)).off + 3, none⟩ = some (.int .u8 ((rd_T37 l0 x8_1).f3)) ∧ w22.cell? ⟨(ad270.add ((x8_1).toNat * 6)).block, (ad270.add ((x8_1).toNat * 6)).off + 4, none⟩ = some (.string ((rd_T37 l0 x8_1).f4)) ∧ w22.cell? ⟨(ad270.add ((x8_1).toNat * 6)).block, (ad270.add ((x8_1).toNat * 6)).off + 5, none⟩ = some (.string ((rd_T37 l0 x8_1).f5)) ∧ w22.cell? (ad270.add ((x8_1).toNat * 6)) = some (.int .u8 ((rd_T37 l0 x8_1).f0)) ∧ w22.cell? ⟨(ad270.add ((x8_1).toNat * 6)).block, (ad270.add ((x8_1).toNat * 6)).off + 1, none⟩ = some (.int .u8 ((rd_T37 l0 x8_1).f1)) ∧ w22.cell? ⟨(ad270.add ((x8_1).toNat * 6)).block, (ad270.add ((x8_1).toNat * 6)).off + 2, none⟩ = some (.int .u8 ((rd_T37 l0 x8_1).f2)) ∧ w22.cell? ⟨(ad270.add ((x8_1).toNat * 6)).block, (ad270.add ((x8_1).toNat * 6)).off + 3, none⟩ = some (.int .u8 ((rd_T37 l0 x8_1).f3)) ∧ w22.cell? ⟨(ad270.add ((x8_1).toNat * 6)).block, (ad270.add ((x8_1).toNat * 6)).off + 4, none⟩ = some (.string ((rd_T37 l0 x8_1).f4)) ∧ w22.cell? ⟨(ad270.add ((x8_1).toNat * 6)).block, (ad270.add ((x8_1).toNat * 6)).off + 5, none⟩ = some (.string ((rd_T37 l0 x8_1).f5)) := hS_
         refine norm_ (a' := ?_) ?_ ?_
         rotate_left
         ·
          simp only [putAll, Act.put, List.setIfInBounds_toArray, List.set_cons_zero, List.set_cons_succ]
          rfl
         refine pure_ (i := 13) (N := some 9) (v := ?_) (a' := ?_) #[true, true, true, true, true, true, true, true, true, true, true, true, true, true, false] rfl rfl (any_of HT_.out (by kernel_rfl)) (fun _ _ _ h => h) (Or.inl ⟨by rfl, ?_⟩) ?_ ?_
         rotate_left
         ·
          intro w'
          go_simp
          with_reducible rfl
         rotate_left
         ·
          simp only [Act.put, List.setIfInBounds_toArray, List.set_cons_zero, List.set_cons_succ, i64_w, i32_w]
          rfl
         refine one_ (i := 14) (N := none) #[true, true, true, true, true, true, true, true, true, true, true, true, true, true, true] rfl rfl (one_of HT_.out (by kernel_rfl)) (by decide) (fun K hK => ?_)
         have hs23 : w22.cell? ⟨gb276, 0, none⟩ = some (.int .i64 0) := (blk_cell BK276.out 0).trans rfl
         have hfs23 := blk_frozen BK276.out 0
         have hns23_0 := NB269_276.out
         have hms23_0 := NB276_269.out
         have hs24 : w22.cell? ⟨gb276, 1, none⟩ = some (.string (⟨#[]⟩ : ByteArray)) := (blk_cell BK276.out 1).trans rfl
         have hfs24 := blk_frozen BK276.out 1
         have hns24_0 := NB269_276.out
         have hms24_0 := NB276_269.out
         have hs25 : w22.cell? ⟨gb276, 2, none⟩ = some (.string (⟨#[]⟩ : ByteArray)) := (blk_cell BK276.out 2).trans rfl
         have hfs25 := blk_frozen BK276.out 2
         have hns25_0 := NB269_276.out
         have hms25_0 := NB276_269.out
         have hs26 : w22.cell? ⟨gb276, 3, none⟩ = some (.int .i64 0) := (blk_cell BK276.out 3).trans rfl
         have hfs26 := blk_frozen BK276.out 3
         have hns26_0 := NB269_276.out
         have hms26_0 := NB276_269.out
         refine skip_ (w1 := ?_) (by rfl) rfl ?_ ?_
         rotate_left
         ·
          go_simp
          rfl
         refine hK.out _ _ ⟨((cell_far (p := ⟨gb276, _, none⟩) (by first | exact Nat.ne_of_lt (Nat.lt_of_lt_of_le (by have := World.block_lt_of_cell? _ _ hw270_0; first | rwa [add_block] at this | exact this) GW276.out) | (rw [add_block]; exact Nat.ne_of_lt (Nat.lt_of_lt_of_le (by have := World.block_lt_of_cell? _ _ hw270_0; first | rwa [add_block] at this | exact this) GW276.out)) | (show (Addr.add _ _).block ≠ _; rw [add_block]; exact Nat.ne_of_lt (Nat.lt_of_lt_of_le (by have := World.block_lt_of_cell? _ _ hw270_0; first | rwa [add_block] at this | exact this) GW276.out)) | (dsimp only; exact Nat.ne_of_lt (Nat.lt_of_lt_of_le (by have := World.block_lt_of_cell? _ _ hw270_0; first | rwa [add_block] at this | exact this) GW276.out))) _).trans (((cell_far (p := ⟨gb276, _, none⟩) (by first | exact Nat.ne_of_lt (Nat.lt_of_lt_of_le (by have := World.block_lt_of_cell? _ _ hw270_0; first | rwa [add_block] at this | exact this) GW276.out) | (rw [add_block]; exact Nat.ne_of_lt (Nat.lt_of_lt_of_le (by have := World.block_lt_of_cell? _ _ hw270_0; first | rwa [add_block] at this | exact this) GW276.out)) | (show (Addr.add _ _).block ≠ _; rw [add_block]; exact Nat.ne_of_lt (Nat.lt_of_lt_of_le (by have := World.block_lt_of_cell? _ _ hw270_0; first | rwa [add_block] at this | exact this) GW276.out)) | (dsimp only; exact Nat.ne_of_lt (Nat.lt_of_lt_of_le (by have := World.block_lt_of_cell? _ _ hw270_0; first | rwa [add_block] at this | exact this) GW276.out))) _).trans (((cell_far (p := ⟨gb276, _, none⟩) (by first | exact Nat.ne_of_lt (Nat.lt_of_lt_of_le (by have := World.block_lt_of_cell? _ _ hw270_0; first | rwa [add_block] at this | exact this) GW276.out) | (rw [add_block]; exact Nat.ne_of_lt (Nat.lt_of_lt_of_le (by have := World.block_lt_of_cell? _ _ hw270_0; first | rwa [add_block] at this | exact this) GW276.out)) | (show (Addr.add _ _).block ≠ _; rw [add_block]; exact Nat.ne_of_lt (Nat.lt_of_lt_of_le (by have := World.block_lt_of_cell? _ _ hw270_0; first | rwa [add_block] at this | exact this) GW276.out)) | (dsimp only; exact Nat.ne_of_lt (Nat.lt_of_lt_of_le (by have := World.block_lt_of_cell? _ _ hw270_0; first | rwa [add_block] at this | exact this) GW276.out))) _).trans (((cell_far (p := ⟨gb276, _, none⟩) (by first | exact Nat.ne_of_lt (Nat.lt_of_lt_of_le (by have := World.block_lt_of_cell? _ _ hw270_0; first | rwa [add_block] at this | exact this) GW276.out) | (rw [add_block]; exact Nat.ne_of_lt (Nat.lt_of_lt_of_le (by have := World.block_lt_of_cell? _ _ hw270_0; first | rwa [add_block] at this | exact this) GW276.out)) | (show (Addr.add _ _).block ≠ _; rw [add_block]; exact Nat.ne_of_lt (Nat.lt_of_lt_of_le (by have := World.block_lt_of_cell? _ _ hw270_0; first | rwa [add_block] at this | exact this) GW276.out)) | (dsimp only; exact Nat.ne_of_lt (Nat.lt_of_lt_of_le (by have := World.block_lt_of_cell? _ _ hw270_0; first | rwa [add_block] at this | exact this) GW276.out))) _).trans (hHeld.1)))))))), ((cell_far (p := ⟨gb276, _, none⟩) (by first | exact Nat.ne_of_lt (Nat.lt_of_lt_of_le (by have := World.block_lt_of_cell? _ _ hw270_1; first | rwa [add_block] at this | exact this) GW276.out) | (rw [add_block]; exact Nat.ne_of_lt (Nat.lt_of_lt_of_le (by have := World.block_lt_of_cell? _ _ hw270_1; first | rwa [add_block] at this | exact this) GW276.out)) | (show (Addr.add _ _).block ≠ _; rw [add_block]; exact Nat.ne_of_lt (Nat.lt_of_lt_of_le (by have := World.block_lt_of_cell? _ _ hw270_1; first | rwa [add_block] at this | exact this) GW276.out)) | (dsimp only; exact Nat.ne_of_lt (Nat.lt_of_lt_of_le (by have := World.block_lt_of_cell? _ _ hw270_1; first | rwa [add_block] at this | exact this) GW276.out))) _).trans (((cell_far (p := ⟨gb276, _, none⟩) (by first | exact Nat.ne_of_lt (Nat.lt_of_lt_of_le (by have := World.block_lt_of_cell? _ _ hw270_1; first | rwa [add_block] at this | exact this) GW276.out) | (rw [add_block]; exact Nat.ne_of_lt (Nat.lt_of_lt_of_le (by have := World.block_lt_of_cell? _ _ hw270_1; first | rwa [add_block] at this | exact this) GW276.out)) | (show (Addr.add _ _).block ≠ _; rw [add_block]; exact Nat.ne_of_lt (Nat.lt_of_lt_of_le (by have := World.block_lt_of_cell? _ _ hw270_1; first | rwa [add_block] at this | exact this) GW276.out)) | (dsimp only; exact Nat.ne_of_lt (Nat.lt_of_lt_of_le (by have := World.block_lt_of_cell? _ _ hw270_1; first | rwa [add_block] at this | exact this) GW276.out))) _).trans (((cell_far (p := ⟨gb276, _, none⟩) (by first | exact Nat.ne_of_lt (Nat.lt_of_lt_of_le (by have := World.block_lt_of_cell? _ _ hw270_1; first | rwa [add_block] at this | exact this) GW276.out) | (rw [add_block]; exact Nat.ne_of_lt (Nat.lt_of_lt_of_le (by have := World.block_lt_of_cell? _ _ hw270_1; first | rwa [add_block] at this | exact this) GW276.out)) | (show (Addr.add _ _).block ≠ _; rw [add_block]; exact Nat.ne_of_lt (Nat.lt_of_lt_of_le (by have := World.block_lt_of_cell? _ _ hw270_1; first | rwa [add_block] at this | exact this) GW276.out)) | (dsimp only; exact Nat.ne_of_lt (Nat.lt_of_lt_of_le (by have := World.block_lt_of_cell? _ _ hw270_1; first | rwa [add_block] at this | exact this) GW276.out))) _).trans (((cell_far (p := ⟨gb276, _, none⟩) (by first | exact Nat.ne_of_lt (Nat.lt_of_lt_of_le (by have := World.block_lt_of_cell? _ _ hw270_1; first | rwa [add_block] at this | exact this) GW276.out) | (rw [add_block]; exact Nat.ne_of_lt (Nat.lt_of_lt_of_le (by have := World.block_lt_of_cell? _ _ hw270_1; first | rwa [add_block] at this | exact this) GW276.out)) | (show (Addr.add _ _).block ≠ _; rw [add_block]; exact Nat.ne_of_lt (Nat.lt_of_lt_of_le (by have := World.block_lt_of_cell? _ _ hw270_1; first | rwa [add_block] at this | exact this) GW276.out)) | (dsimp only; exact Nat.ne_of_lt (Nat.lt_of_lt_of_le (by have := World.block_lt_of_cell? _ _ hw270_1; first | rwa [add_block] at this | exact this) GW276.out))) _).trans (hHeld.2.1)))))))), ((cell_far (p := ⟨gb276, _, none⟩) (by first | exact Nat.ne_of_lt (Nat.lt_of_lt_of_le (by have := World.block_lt_of_cell? _ _ hw270_2; first | rwa [add_block] at this | exact this) GW276.out) | (rw [add_block]; exact Nat.ne_of_lt (Nat.lt_of_lt_of_le (by have := World.block_lt_of_cell? _ _ hw270_2; first | rwa [add_block] at this | exact this) GW276.out)) | (show (Addr.add _ _).block ≠ _; rw [add_block]; exact Nat.ne_of_lt (Nat.lt_of_lt_of_le (by have := World.block_lt_of_cell? _ _ hw270_2; first | rwa [add_block] at this | exact this) GW276.out)) | (dsimp only; exact Nat.ne_of_lt (Nat.lt_of_lt_of_le (by have := World.block_lt_of_cell? _ _ hw270_2; first | rwa [add_block] at this | exact this) GW276.out))) _).trans (((cell_far (p := ⟨gb276, _, none⟩) (by first | exact Nat.ne_of_lt (Nat.lt_of_lt_of_le (by have := World.block_lt_of_cell? _ _ hw270_2; first | rwa [add_block] at this | exact this) GW276.out) | (rw [add_block]; exact Nat.ne_of_lt (Nat.lt_of_lt_of_le (by have := World.block_lt_of_cell? _ _ hw270_2; first | rwa [add_block] at this | exact this) GW276.out)) | (show (Addr.add _ _).block ≠ _; rw [add_block]; exact Nat.ne_of_lt (Nat.lt_of_lt_of_le (by have := World.block_lt_of_cell? _ _ hw270_2; first | rwa [add_block] at this | exact this) GW276.out)) | (dsimp only; exact Nat.ne_of_lt (Nat.lt_of_lt_of_le (by have := World.block_lt_of_cell? _ _ hw270_2; first | rwa [add_block] at this | exact this) GW276.out))) _).trans (((cell_far (p := ⟨gb276, _, none⟩) (by first | exact Nat.ne_of_lt (Nat.lt_of_lt_of_le (by have := World.block_lt_of_cell? _ _ hw270_2; first | rwa [add_block] at this | exact this) GW276.out) | (rw [add_block]; exact Nat.ne_of_lt (Nat.lt_of_lt_of_le (by have := World.block_lt_of_cell? _ _ hw270_2; first | rwa [add_block] at this | exact this) GW276.out)) | (show (Addr.add _ _).block ≠ _; rw [add_block]; exact Nat.ne_of_lt (Nat.lt_of_lt_of_le (by have := World.block_lt_of_cell? _ _ hw270_2; first | rwa [add_block] at this | exact this) GW276.out)) | (dsimp only; exact Nat.ne_of_lt (Nat.lt_of_lt_of_le (by have := World.block_lt_of_cell? _ _ hw270_2; first | rwa [add_block] at this | exact this) GW276.out))) _).trans (((cell_far (p := ⟨gb276, _, none⟩) (by first | exact Nat.ne_of_lt (Nat.lt_of_lt_of_le (by have := World.block_lt_of_cell? _ _ hw270_2; first | rwa [add_block] at this | exact this) GW276.out) | (rw [add_block]; exact Nat.ne_of_lt (Nat.lt_of_lt_of_le (by have := World.block_lt_of_cell? _ _ hw270_2; first | rwa [add_block] at this | exact this) GW276.out)) | (show (Addr.add _ _).block ≠ _; rw [add_block]; exact Nat.ne_of_lt (Nat.lt_of_lt_of_le (by have := World.block_lt_of_cell? _ _ hw270_2; first | rwa [add_block] at this | exact this) GW276.out)) | (dsimp only; exact Nat.ne_of_lt (Nat.lt_of_lt_of_le (by have := World.block_lt_of_cell? _ _ hw270_2; first | rwa [add_block] at this | exact this) GW276.out))) _).trans (hHeld.2.2.1)))))))), ((cell_far (p := ⟨gb276, _, none⟩) (by first | exact Nat.ne_of_lt (Nat.lt_of_lt_of_le (by have := World.block_lt_of_cell? _ _ hw270_3; first | rwa [add_block] at this | exact this) GW276.out) | (rw [add_block]; exact Nat.ne_of_lt (Nat.lt_of_lt_of_le (by have := World.block_lt_of_cell? _ _ hw270_3; first | rwa [add_block] at this | exact this) GW276.out)) | (show (Addr.add _ _).block ≠ _; rw [add_block]; exact Nat.ne_of_lt (Nat.lt_of_lt_of_le (by have := World.block_lt_of_cell? _ _ hw270_3; first | rwa [add_block] at this | exact this) GW276.out)) | (dsimp only; exact Nat.ne_of_lt (Nat.lt_of_lt_of_le (by have := World.block_lt_of_cell? _ _ hw270_3; first | rwa [add_block] at this | exact this) GW276.out))) _).trans (((cell_far (p := ⟨gb276, _, none⟩) (by first | exact Nat.ne_of_lt (Nat.lt_of_lt_of_le (by have := World.block_lt_of_cell? _ _ hw270_3; first | rwa [add_block] at this | exact this) GW276.out) | (rw [add_block]; exact Nat.ne_of_lt (Nat.lt_of_lt_of_le (by have := World.block_lt_of_cell? _ _ hw270_3; first | rwa [add_block] at this | exact this) GW276.out)) | (show (Addr.add _ _).block ≠ _; rw [add_block]; exact Nat.ne_of_lt (Nat.lt_of_lt_of_le (by have := World.block_lt_of_cell? _ _ hw270_3; first | rwa [add_block] at this | exact this) GW276.out)) | (dsimp only; exact Nat.ne_of_lt (Nat.lt_of_lt_of_le (by have := World.block_lt_of_cell? _ _ hw270_3; first | rwa [add_block] at this | exact this) GW276.out))) _).trans (((cell_far (p := ⟨gb276, _, none⟩) (by first | exact Nat.ne_of_lt (Nat.lt_of_lt_of_le (by have := World.block_lt_of_cell? _ _ hw270_3; first | rwa [add_block] at this | exact this) GW276.out) | (rw [add_block]; exact Nat.ne_of_lt (Nat.lt_of_lt_of_le (by have := World.block_lt_of_cell? _ _ hw270_3; first | rwa [add_block] at this | exact this) GW276.out)) | (show (Addr.add _ _).block ≠ _; rw [add_block]; exact Nat.ne_of_lt (Nat.lt_of_lt_of_le (by have := World.block_lt_of_cell? _ _ hw270_3; first | rwa [add_block] at this | exact this) GW276.out)) | (dsimp only; exact Nat.ne_of_lt (Nat.lt_of_lt_of_le (by have := World.block_lt_of_cell? _ _ hw270_3; first | rwa [add_block] at this | exact this) GW276.out))) _).trans (((cell_far (p := ⟨gb276, _, none⟩) (by first | exact Nat.ne_of_lt (Nat.lt_of_lt_of_le (by have := World.block_lt_of_cell? _ _ hw270_3; first | rwa [add_block] at this | exact this) GW276.out) | (rw [add_block]; exact Nat.ne_of_lt (Nat.lt_of_lt_of_le (by have := World.block_lt_of_cell? _ _ hw270_3; first | rwa [add_block] at this | exact this) GW276.out)) | (show (Addr.add _ _).block ≠ _; rw [add_block]; exact Nat.ne_of_lt (Nat.lt_of_lt_of_le (by have := World.block_lt_of_cell? _ _ hw270_3; first | rwa [add_block] at this | exact this) GW276.out)) | (dsimp only; exact Nat.ne_of_lt (Nat.lt_of_lt_of_le (by have := World.block_lt_of_cell? _ _ hw270_3; first | rwa [add_block] at this | exact this) GW276.out))) _).trans (hHeld.2.2.2.1)))))))), ((cell_far (p := ⟨gb276, _, none⟩) (by first | exact Nat.ne_of_lt (Nat.lt_of_lt_of_le (by have := World.block_lt_of_cell? _ _ hw270_4; first | rwa [add_block] at this | exact this) GW276.out) | (rw [add_block]; exact Nat.ne_of_lt (Nat.lt_of_lt_of_le (by have := World.block_lt_of_cell? _ _ hw270_4; first | rwa [add_block] at this | exact this) GW276.out)) | (show (Addr.add _ _).block ≠ _; rw [add_block]; exact Nat.ne_of_lt (Nat.lt_of_lt_of_le (by have := World.block_lt_of_cell? _ _ hw270_4; first | rwa [add_block] at this | exact this) GW276.out)) | (dsimp only; exact Nat.ne_of_lt (Nat.lt_of_lt_of_le (by have := World.block_lt_of_cell? _ _ hw270_4; first | rwa [add_block] at this | exact this) GW276.out))) _).trans (((cell_far (p := ⟨gb276, _, none⟩) (by first | exact Nat.ne_of_lt (Nat.lt_of_lt_of_le (by have := World.block_lt_of_cell? _ _ hw270_4; first | rwa [add_block] at this | exact this) GW276.out) | (rw [add_block]; exact Nat.ne_of_lt (Nat.lt_of_lt_of_le (by have := World.block_lt_of_cell? _ _ hw270_4; first | rwa [add_block] at this | exact this) GW276.out)) | (show (Addr.add _ _).block ≠ _; rw [add_block]; exact Nat.ne_of_lt (Nat.lt_of_lt_of_le (by have := World.block_lt_of_cell? _ _ hw270_4; first | rwa [add_block] at this | exact this) GW276.out)) | (dsimp only; exact Nat.ne_of_lt (Nat.lt_of_lt_of_le (by have := World.block_lt_of_cell? _ _ hw270_4; first | rwa [add_block] at this | exact this) GW276.out))) _).trans (((cell_far (p := ⟨gb276, _, none⟩) (by first | exact Nat.ne_of_lt (Nat.lt_of_lt_of_le (by have := World.block_lt_of_cell? _ _ hw270_4; first | rwa [add_block] at this | exact this) GW276.out) | (rw [add_block]; exact Nat.ne_of_lt (Nat.lt_of_lt_of_le (by have := World.block_lt_of_cell? _ _ hw270_4; first | rwa [add_block] at this | exact this) GW276.out)) | (show (Addr.add _ _).block ≠ _; rw [add_block]; exact Nat.ne_of_lt (Nat.lt_of_lt_of_le (by have := World.block_lt_of_cell? _ _ hw270_4; first | rwa [add_block] at this | exact this) GW276.out)) | (dsimp only; exact Nat.ne_of_lt (Nat.lt_of_lt_of_le (by have := World.block_lt_of_cell? _ _ hw270_4; first | rwa [add_block] at this | exact this) GW276.out))) _).trans (((cell_far (p := ⟨gb276, _, none⟩) (by first | exact Nat.ne_of_lt (Nat.lt_of_lt_of_le (by have := World.block_lt_of_cell? _ _ hw270_4; first | rwa [add_block] at this | exact this) GW276.out) | (rw [add_block]; exact Nat.ne_of_lt (Nat.lt_of_lt_of_le (by have := World.block_lt_of_cell? _ _ hw270_4; first | rwa [add_block] at this | exact this) GW276.out)) | (show (Addr.add _ _).block ≠ _; rw [add_block]; exact Nat.ne_of_lt (Nat.lt_of_lt_of_le (by have := World.block_lt_of_cell? _ _ hw270_4; first | rwa [add_block] at this | exact this) GW276.out)) | (dsimp only; exact Nat.ne_of_lt (Nat.lt_of_lt_of_le (by have := World.block_lt_of_cell? _ _ hw270_4; first | rwa [add_block] at this | exact this) GW276.out))) _).trans (hHeld.2.2.2.2.1)))))))), ((cell_far (p := ⟨gb276, _, none⟩) (by first | exact Nat.ne_of_lt (Nat.lt_of_lt_of_le (by have := World.block_lt_of_cell? _ _ hw270_5; first | rwa [add_block] at this | exact this) GW276.out) | (rw [add_block]; exact Nat.ne_of_lt (Nat.lt_of_lt_of_le (by have := World.block_lt_of_cell? _ _ hw270_5; first | rwa [add_block] at this | exact this) GW276.out)) | (show (Addr.add _ _).block ≠ _; rw [add_block]; exact Nat.ne_of_lt (Nat.lt_of_lt_of_le (by have := World.block_lt_of_cell? _ _ hw270_5; first | rwa [add_block] at this | exact this) GW276.out)) | (dsimp only; exact Nat.ne_of_lt (Nat.lt_of_lt_of_le (by have := World.block_lt_of_cell? _ _ hw270_5; first | rwa [add_block] at this | exact this) GW276.out))) _).trans (((cell_far (p := ⟨gb276, _, none⟩) (by first | exact Nat.ne_of_lt (Nat.lt_of_lt_of_le (by have := World.block_lt_of_cell? _ _ hw270_5; first | rwa [add_block] at this | exact this) GW276.out) | (rw [add_block]; exact Nat.ne_of_lt (Nat.lt_of_lt_of_le (by have := World.block_lt_of_cell? _ _ hw270_5; first | rwa [add_block] at this | exact this) GW276.out)) | (show (Addr.add _ _).block ≠ _; rw [add_block]; exact Nat.ne_of_lt (Nat.lt_of_lt_of_le (by have := World.block_lt_of_cell? _ _ hw270_5; first | rwa [add_block] at this | exact this) GW276.out)) | (dsimp only; exact Nat.ne_of_lt (Nat.lt_of_lt_of_le (by have := World.block_lt_of_cell? _ _ hw270_5; first | rwa [add_block] at this | exact this) GW276.out))) _).trans (((cell_far (p := ⟨gb276, _, none⟩) (by first | exact Nat.ne_of_lt (Nat.lt_of_lt_of_le (by have := World.block_lt_of_cell? _ _ hw270_5; first | rwa [add_block] at this | exact this) GW276.out) | (rw [add_block]; exact Nat.ne_of_lt (Nat.lt_of_lt_of_le (by have := World.block_lt_of_cell? _ _ hw270_5; first | rwa [add_block] at this | exact this) GW276.out)) | (show (Addr.add _ _).block ≠ _; rw [add_block]; exact Nat.ne_of_lt (Nat.lt_of_lt_of_le (by have := World.block_lt_of_cell? _ _ hw270_5; first | rwa [add_block] at this | exact this) GW276.out)) | (dsimp only; exact Nat.ne_of_lt (Nat.lt_of_lt_of_le (by have := World.block_lt_of_cell? _ _ hw270_5; first | rwa [add_block] at this | exact this) GW276.out))) _).trans (((cell_far (p := ⟨gb276, _, none⟩) (by first | exact Nat.ne_of_lt (Nat.lt_of_lt_of_le (by have := World.block_lt_of_cell? _ _ hw270_5; first | rwa [add_block] at this | exact this) GW276.out) | (rw [add_block]; exact Nat.ne_of_lt (Nat.lt_of_lt_of_le (by have := World.block_lt_of_cell? _ _ hw270_5; first | rwa [add_block] at this | exact this) GW276.out)) | (show (Addr.add _ _).block ≠ _; rw [add_block]; exact Nat.ne_of_lt (Nat.lt_of_lt_of_le (by have := World.block_lt_of_cell? _ _ hw270_5; first | rwa [add_block] at this | exact this) GW276.out)) | (dsimp only; exact Nat.ne_of_lt (Nat.lt_of_lt_of_le (by have := World.block_lt_of_cell? _ _ hw270_5; first | rwa [add_block] at this | exact this) GW276.out))) _).trans (hHeld.2.2.2.2.2.1)))))))), ((cell_far (p := ⟨gb276, _, none⟩) (by first | exact Nat.ne_of_lt (Nat.lt_of_lt_of_le (by have := World.block_lt_of_cell? _ _ hw271_0; first | rwa [add_block] at this | exact this) GW276.out) | (rw [add_block]; exact Nat.ne_of_lt (Nat.lt_of_lt_of_le (by have := World.block_lt_of_cell? _ _ hw271_0; first | rwa [add_block] at this | exact this) GW276.out)) | (show (Addr.add _ _).block ≠ _; rw [add_block]; exact Nat.ne_of_lt (Nat.lt_of_lt_of_le (by have := World.block_lt_of_cell? _ _ hw271_0; first | rwa [add_block] at this | exact this) GW276.out)) | (dsimp only; exact Nat.ne_of_lt (Nat.lt_of_lt_of_le (by have := World.block_lt_of_cell? _ _ hw271_0; first | rwa [add_block] at this | exact this) GW276.out))) _).trans (((cell_far (p := ⟨gb276, _, none⟩) (by first | exact Nat.ne_of_lt (Nat.lt_of_lt_of_le (by have := World.block_lt_of_cell? _ _ hw271_0; first | rwa [add_block] at this | exact this) GW276.out) | (rw [add_block]; exact Nat.ne_of_lt (Nat.lt_of_lt_of_le (by have := World.block_lt_of_cell? _ _ hw271_0; first | rwa [add_block] at this | exact this) GW276.out)) | (show (Addr.add _ _).block ≠ _; rw [add_block]; exact Nat.ne_of_lt (Nat.lt_of_lt_of_le (by have := World.block_lt_of_cell? _ _ hw271_0; first | rwa [add_block] at this | exact this) GW276.out)) | (dsimp only; exact Nat.ne_of_lt (Nat.lt_of_lt_of_le (by have := World.block_lt_of_cell? _ _ hw271_0; first | rwa [add_block] at this | exact this) GW276.out))) _).trans (((cell_far (p := ⟨gb276, _, none⟩) (by first | exact Nat.ne_of_lt (Nat.lt_of_lt_of_le (by have := World.block_lt_of_cell? _ _ hw271_0; first | rwa [add_block] at this | exact this) GW276.out) | (rw [add_block]; exact Nat.ne_of_lt (Nat.lt_of_lt_of_le (by have := World.block_lt_of_cell? _ _ hw271_0; first | rwa [add_block] at this | exact this) GW276.out)) | (show (Addr.add _ _).block ≠ _; rw [add_block]; exact Nat.ne_of_lt (Nat.lt_of_lt_of_le (by have := World.block_lt_of_cell? _ _ hw271_0; first | rwa [add_block] at this | exact this) GW276.out)) | (dsimp only; exact Nat.ne_of_lt (Nat.lt_of_lt_of_le (by have := World.block_lt_of_cell? _ _ hw271_0; first | rwa [add_block] at this | exact this) GW276.out))) _).trans (((cell_far (p := ⟨gb276, _, none⟩) (by first | exact Nat.ne_of_lt (Nat.lt_of_lt_of_le (by have := World.block_lt_of_cell? _ _ hw271_0; first | rwa [add_block] at this | exact this) GW276.out) | (rw [add_block]; exact Nat.ne_of_lt (Nat.lt_of_lt_of_le (by have := World.block_lt_of_cell? _ _ hw271_0; first | rwa [add_block] at this | exact this) GW276.out)) | (show (Addr.add _ _).block ≠ _; rw [add_block]; exact Nat.ne_of_lt (Nat.lt_of_lt_of_le (by have := World.block_lt_of_cell? _ _ hw271_0; first | rwa [add_block] at this | exact this) GW276.out)) | (dsimp only; exact Nat.ne_of_lt (Nat.lt_of_lt_of_le (by have := World.block_lt_of_cell? _ _ hw271_0; first | rwa [add_block] at this | exact this) GW276.out))) _).trans (hHeld.2.2.2.2.2.2.1)))))))), ((cell_far (p := ⟨gb276, _, none⟩) (by first | exact Nat.ne_of_lt (Nat.lt_of_lt_of_le (by have := World.block_lt_of_cell? _ _ hw271_1; first | rwa [add_block] at this | exact this) GW276.out) | (rw [add_block]; exact Nat.ne_of_lt (Nat.lt_of_lt_of_le (by have := World.block_lt_of_cell? _ _ hw271_1; first | rwa [add_block] at this | exact this) GW276.out)) | (show (Addr.add _ _).block ≠ _; rw [add_block]; exact Nat.ne_of_lt (Nat.lt_of_lt_of_le (by have := World.block_lt_of_cell? _ _ hw271_1; first | rwa [add_block] at this | exact this) GW276.out)) | (dsimp only; exact Nat.ne_of_lt (Nat.lt_of_lt_of_le (by have := World.block_lt_of_cell? _ _ hw271_1; first | rwa [add_block] at this | exact this) GW276.out))) _).trans (((cell_far (p := ⟨gb276, _, none⟩) (by first | exact Nat.ne_of_lt (Nat.lt_of_lt_of_le (by have := World.block_lt_of_cell? _ _ hw271_1; first | rwa [add_block] at this | exact this) GW276.out) | (rw [add_block]; exact Nat.ne_of_lt (Nat.lt_of_lt_of_le (by have := World.block_lt_of_cell? _ _ hw271_1; first | rwa [add_block] at this | exact this) GW276.out)) | (show (Addr.add _ _).block ≠ _; rw [add_block]; exact Nat.ne_of_lt (Nat.lt_of_lt_of_le (by have := World.block_lt_of_cell? _ _ hw271_1; first | rwa [add_block] at this | exact this) GW276.out)) | (dsimp only; exact Nat.ne_of_lt (Nat.lt_of_lt_of_le (by have := World.block_lt_of_cell? _ _ hw271_1; first | rwa [add_block] at this | exact this) GW276.out))) _).trans (((cell_far (p := ⟨gb276, _, none⟩) (by first | exact Nat.ne_of_lt (Nat.lt_of_lt_of_le (by have := World.block_lt_of_cell? _ _ hw271_1; first | rwa [add_block] at this | exact this) GW276.out) | (rw [add_block]; exact Nat.ne_of_lt (Nat.lt_of_lt_of_le (by have := World.block_lt_of_cell? _ _ hw271_1; first | rwa [add_block] at this | exact this) GW276.out)) | (show (Addr.add _ _).block ≠ _; rw [add_block]; exact Nat.ne_of_lt (Nat.lt_of_lt_of_le (by have := World.block_lt_of_cell? _ _ hw271_1; first | rwa [add_block] at this | exact this) GW276.out)) | (dsimp only; exact Nat.ne_of_lt (Nat.lt_of_lt_of_le (by have := World.block_lt_of_cell? _ _ hw271_1; first | rwa [add_block] at this | exact this) GW276.out))) _).trans (((cell_far (p := ⟨gb276, _, none⟩) (by first | exact Nat.ne_of_lt (Nat.lt_of_lt_of_le (by have := World.block_lt_of_cell? _ _ hw271_1; first | rwa [add_block] at this | exact this) GW276.out) | (rw [add_block]; exact Nat.ne_of_lt (Nat.lt_of_lt_of_le (by have := World.block_lt_of_cell? _ _ hw271_1; first | rwa [add_block] at this | exact this) GW276.out)) | (show (Addr.add _ _).block ≠ _; rw [add_block]; exact Nat.ne_of_lt (Nat.lt_of_lt_of_le (by have := World.block_lt_of_cell? _ _ hw271_1; first | rwa [add_block] at this | exact this) GW276.out)) | (dsimp only; exact Nat.ne_of_lt (Nat.lt_of_lt_of_le (by have := World.block_lt_of_cell? _ _ hw271_1; first | rwa [add_block] at this | exact this) GW276.out))) _).trans (hHeld.2.2.2.2.2.2.2.1)))))))), ((cell_far (p := ⟨gb276, _, none⟩) (by first | exact Nat.ne_of_lt (Nat.lt_of_lt_of_le (by have := World.block_lt_of_cell? _ _ hw271_2; first | rwa [add_block] at this | exact this) GW276.out) | (rw [add_block]; exact Nat.ne_of_lt (Nat.lt_of_lt_of_le (by have := World.block_lt_of_cell? _ _ hw271_2; first | rwa [add_block] at this | exact this) GW276.out)) | (show (Addr.add _ _).block ≠ _; rw [add_block]; exact Nat.ne_of_lt (Nat.lt_of_lt_of_le (by have := World.block_lt_of_cell? _ _ hw271_2; first | rwa [add_block] at this | exact this) GW276.out)) | (dsimp only; exact Nat.ne_of_lt (Nat.lt_of_lt_of_le (by have := World.block_lt_of_cell? _ _ hw271_2; first | rwa [add_block] at this | exact this) GW276.out))) _).trans (((cell_far (p := ⟨gb276, _, none⟩) (by first | exact Nat.ne_of_lt (Nat.lt_of_lt_of_le (by have := World.block_lt_of_cell? _ _ hw271_2; first | rwa [add_block] at this | exact this) GW276.out) | (rw [add_block]; exact Nat.ne_of_lt (Nat.lt_of_lt_of_le (by have := World.block_lt_of_cell? _ _ hw271_2; first | rwa [add_block] at this | exact this) GW276.out)) | (show (Addr.add _ _).block ≠ _; rw [add_block]; exact Nat.ne_of_lt (Nat.lt_of_lt_of_le (by have := World.block_lt_of_cell? _ _ hw271_2; first | rwa [add_block] at this | exact this) GW276.out)) | (dsimp only; exact Nat.ne_of_lt (Nat.lt_of_lt_of_le (by have := World.block_lt_of_cell? _ _ hw271_2; first | rwa [add_block] at this | exact this) GW276.out))) _).trans (((cell_far (p := ⟨gb276, _, none⟩) (by first | exact Nat.ne_of_lt (Nat.lt_of_lt_of_le (by have := World.block_lt_of_cell? _ _ hw271_2; first | rwa [add_block] at this | exact this) GW276.out) | (rw [add_block]; exact Nat.ne_of_lt (Nat.lt_of_lt_of_le (by have := World.block_lt_of_cell? _ _ hw271_2; first | rwa [add_block] at this | exact this) GW276.out)) | (show (Addr.add _ _).block ≠ _; rw [add_block]; exact Nat.ne_of_lt (Nat.lt_of_lt_of_le (by have := World.block_lt_of_cell? _ _ hw271_2; first | rwa [add_block] at this | exact this) GW276.out)) | (dsimp only; exact Nat.ne_of_lt (Nat.lt_of_lt_of_le (by have := World.block_lt_of_cell? _ _ hw271_2; first | rwa [add_block] at this | exact this) GW276.out))) _).trans (((cell_far (p := ⟨gb276, _, none⟩) (by first | exact Nat.ne_of_lt (Nat.lt_of_lt_of_le (by have := World.block_lt_of_cell? _ _ hw271_2; first | rwa [add_block] at this | exact this) GW276.out) | (rw [add_block]; exact Nat.ne_of_lt (Nat.lt_of_lt_of_le (by have := World.block_lt_of_cell? _ _ hw271_2; first | rwa [add_block] at this | exact this) GW276.out)) | (show (Addr.add _ _).block ≠ _; rw [add_block]; exact Nat.ne_of_lt (Nat.lt_of_lt_of_le (by have := World.block_lt_of_cell? _ _ hw271_2; first | rwa [add_block] at this | exact this) GW276.out)) | (dsimp only; exact Nat.ne_of_lt (Nat.lt_of_lt_of_le (by have := World.block_lt_of_cell? _ _ hw271_2; first | rwa [add_block] at this | exact this) GW276.out))) _).trans (hHeld.2.2.2.2.2.2.2.2.1)))))))), ((cell_far (p := ⟨gb276, _, none⟩) (by first | exact Nat.ne_of_lt (Nat.lt_of_lt_of_le (by have := World.block_lt_of_cell? _ _ hw271_3; first | rwa [add_block] at this | exact this) GW276.out) | (rw [add_block]; exact Nat.ne_of_lt (Nat.lt_of_lt_of_le (by have := World.block_lt_of_cell? _ _ hw271_3; first | rwa [add_block] at this | exact this) GW276.out)) | (show (Addr.add _ _).block ≠ _; rw [add_block]; exact Nat.ne_of_lt (Nat.lt_of_lt_of_le (by have := World.block_lt_of_cell? _ _ hw271_3; first | rwa [add_block] at this | exact this) GW276.out)) | (dsimp only; exact Nat.ne_of_lt (Nat.lt_of_lt_of_le (by have := World.block_lt_of_cell? _ _ hw271_3; first | rwa [add_block] at this | exact this) GW276.out))) _).trans (((cell_far (p := ⟨gb276, _, none⟩) (by first | exact Nat.ne_of_lt (Nat.lt_of_lt_of_le (by have := World.block_lt_of_cell? _ _ hw271_3; first | rwa [add_block] at this | exact this) GW276.out) | (rw [add_block]; exact Nat.ne_of_lt (Nat.lt_of_lt_of_le (by have := World.block_lt_of_cell? _ _ hw271_3; first | rwa [add_block] at this | exact this) GW276.out)) | (show (Addr.add _ _).block ≠ _; rw [add_block]; exact Nat.ne_of_lt (Nat.lt_of_lt_of_le (by have := World.block_lt_of_cell? _ _ hw271_3; first | rwa [add_block] at this | exact this) GW276.out)) | (dsimp only; exact Nat.ne_of_lt (Nat.lt_of_lt_of_le (by have := World.block_lt_of_cell? _ _ hw271_3; first | rwa [add_block] at this | exact this) GW276.out))) _).trans (((cell_far (p := ⟨gb276, _, none⟩) (by first | exact Nat.ne_of_lt (Nat.lt_of_lt_of_le (by have := World.block_lt_of_cell? _ _ hw271_3; first | rwa [add_block] at this | exact this) GW276.out) | (rw [add_block]; exact Nat.ne_of_lt (Nat.lt_of_lt_of_le (by have := World.block_lt_of_cell? _ _ hw271_3; first | rwa [add_block] at this | exact this) GW276.out)) | (show (Addr.add _ _).block ≠ _; rw [add_block]; exact Nat.ne_of_lt (Nat.lt_of_lt_of_le (by have := World.block_lt_of_cell? _ _ hw271_3; first | rwa [add_block] at this | exact this) GW276.out)) | (dsimp only; exact Nat.ne_of_lt (Nat.lt_of_lt_of_le (by have := World.block_lt_of_cell? _ _ hw271_3; first | rwa [add_block] at this | exact this) GW276.out))) _).trans (((cell_far (p := ⟨gb276, _, none⟩) (by first | exact Nat.ne_of_lt (Nat.lt_of_lt_of_le (by have := World.block_lt_of_cell? _ _ hw271_3; first | rwa [add_block] at this | exact this) GW276.out) | (rw [add_block]; exact Nat.ne_of_lt (Nat.lt_of_lt_of_le (by have := World.block_lt_of_cell? _ _ hw271_3; first | rwa [add_block] at this | exact this) GW276.out)) | (show (Addr.add _ _).block ≠ _; rw [add_block]; exact Nat.ne_of_lt (Nat.lt_of_lt_of_le (by have := World.block_lt_of_cell? _ _ hw271_3; first | rwa [add_block] at this | exact this) GW276.out)) | (dsimp only; exact Nat.ne_of_lt (Nat.lt_of_lt_of_le (by have := World.block_lt_of_cell? _ _ hw271_3; first | rwa [add_block] at this | exact this) GW276.out))) _).trans (hHeld.2.2.2.2.2.2.2.2.2.1)))))))), ((cell_far (p := ⟨gb276, _, none⟩) (by first | exact Nat.ne_of_lt (Nat.lt_of_lt_of_le (by have := World.block_lt_of_cell? _ _ hw271_4; first | rwa [add_block] at this | exact this) GW276.out) | (rw [add_block]; exact Nat.ne_of_lt (Nat.lt_of_lt_of_le (by have := World.block_lt_of_cell? _ _ hw271_4; first | rwa [add_block] at this | exact this) GW276.out)) | (show (Addr.add _ _).block ≠ _; rw [add_block]; exact Nat.ne_of_lt (Nat.lt_of_lt_of_le (by have := World.block_lt_of_cell? _ _ hw271_4; first | rwa [add_block] at this | exact this) GW276.out)) | (dsimp only; exact Nat.ne_of_lt (Nat.lt_of_lt_of_le (by have := World.block_lt_of_cell? _ _ hw271_4; first | rwa [add_block] at this | exact this) GW276.out))) _).trans (((cell_far (p := ⟨gb276, _, none⟩) (by first | exact Nat.ne_of_lt (Nat.lt_of_lt_of_le (by have := World.block_lt_of_cell? _ _ hw271_4; first | rwa [add_block] at this | exact this) GW276.out) | (rw [add_block]; exact Nat.ne_of_lt (Nat.lt_of_lt_of_le (by have := World.block_lt_of_cell? _ _ hw271_4; first | rwa [add_block] at this | exact this) GW276.out)) | (show (Addr.add _ _).block ≠ _; rw [add_block]; exact Nat.ne_of_lt (Nat.lt_of_lt_of_le (by have := World.block_lt_of_cell? _ _ hw271_4; first | rwa [add_block] at this | exact this) GW276.out)) | (dsimp only; exact Nat.ne_of_lt (Nat.lt_of_lt_of_le (by have := World.block_lt_of_cell? _ _ hw271_4; first | rwa [add_block] at this | exact this) GW276.out))) _).trans (((cell_far (p := ⟨gb276, _, none⟩) (by first | exact Nat.ne_of_lt (Nat.lt_of_lt_of_le (by have := World.block_lt_of_cell? _ _ hw271_4; first | rwa [add_block] at this | exact this) GW276.out) | (rw [add_block]; exact Nat.ne_of_lt (Nat.lt_of_lt_of_le (by have := World.block_lt_of_cell? _ _ hw271_4; first | rwa [add_block] at this | exact this) GW276.out)) | (show (Addr.add _ _).block ≠ _; rw [add_block]; exact Nat.ne_of_lt (Nat.lt_of_lt_of_le (by have := World.block_lt_of_cell? _ _ hw271_4; first | rwa [add_block] at this | exact this) GW276.out)) | (dsimp only; exact Nat.ne_of_lt (Nat.lt_of_lt_of_le (by have := World.block_lt_of_cell? _ _ hw271_4; first | rwa [add_block] at this | exact this) GW276.out))) _).trans (((cell_far (p := ⟨gb276, _, none⟩) (by first | exact Nat.ne_of_lt (Nat.lt_of_lt_of_le (by have := World.block_lt_of_cell? _ _ hw271_4; first | rwa [add_block] at this | exact this) GW276.out) | (rw [add_block]; exact Nat.ne_of_lt (Nat.lt_of_lt_of_le (by have := World.block_lt_of_cell? _ _ hw271_4; first | rwa [add_block] at this | exact this) GW276.out)) | (show (Addr.add _ _).block ≠ _; rw [add_block]; exact Nat.ne_of_lt (Nat.lt_of_lt_of_le (by have := World.block_lt_of_cell? _ _ hw271_4; first | rwa [add_block] at this | exact this) GW276.out)) | (dsimp only; exact Nat.ne_of_lt (Nat.lt_of_lt_of_le (by have := World.block_lt_of_cell? _ _ hw271_4; first | rwa [add_block] at this | exact this) GW276.out))) _).trans (hHeld.2.2.2.2.2.2.2.2.2.2.1)))))))), ((cell_far (p := ⟨gb276, _, none⟩) (by first | exact Nat.ne_of_lt (Nat.lt_of_lt_of_le (by have := World.block_lt_of_cell? _ _ hw271_5; first | rwa [add_block] at this | exact this) GW276.out) | (rw [add_block]; exact Nat.ne_of_lt (Nat.lt_of_lt_of_le (by have := World.block_lt_of_cell? _ _ hw271_5; first | rwa [add_block] at this | exact this) GW276.out)) | (show (Addr.add _ _).block ≠ _; rw [add_block]; exact Nat.ne_of_lt (Nat.lt_of_lt_of_le (by have := World.block_lt_of_cell? _ _ hw271_5; first | rwa [add_block] at this | exact this) GW276.out)) | (dsimp only; exact Nat.ne_of_lt (Nat.lt_of_lt_of_le (by have := World.block_lt_of_cell? _ _ hw271_5; first | rwa [add_block] at this | exact this) GW276.out))) _).trans (((cell_far (p := ⟨gb276, _, none⟩) (by first | exact Nat.ne_of_lt (Nat.lt_of_lt_of_le (by have := World.block_lt_of_cell? _ _ hw271_5; first | rwa [add_block] at this | exact this) GW276.out) | (rw [add_block]; exact Nat.ne_of_lt (Nat.lt_of_lt_of_le (by have := World.block_lt_of_cell? _ _ hw271_5; first | rwa [add_block] at this | exact this) GW276.out)) | (show (Addr.add _ _).block ≠ _; rw [add_block]; exact Nat.ne_of_lt (Nat.lt_of_lt_of_le (by have := World.block_lt_of_cell? _ _ hw271_5; first | rwa [add_block] at this | exact this) GW276.out)) | (dsimp only; exact Nat.ne_of_lt (Nat.lt_of_lt_of_le (by have := World.block_lt_of_cell? _ _ hw271_5; first | rwa [add_block] at this | exact this) GW276.out))) _).trans (((cell_far (p := ⟨gb276, _, none⟩) (by first | exact Nat.ne_of_lt (Nat.lt_of_lt_of_le (by have := World.block_lt_of_cell? _ _ hw271_5; first | rwa [add_block] at this | exact this) GW276.out) | (rw [add_block]; exact Nat.ne_of_lt (Nat.lt_of_lt_of_le (by have := World.block_lt_of_cell? _ _ hw271_5; first | rwa [add_block] at this | exact this) GW276.out)) | (show (Addr.add _ _).block ≠ _; rw [add_block]; exact Nat.ne_of_lt (Nat.lt_of_lt_of_le (by have := World.block_lt_of_cell? _ _ hw271_5; first | rwa [add_block] at this | exact this) GW276.out)) | (dsimp only; exact Nat.ne_of_lt (Nat.lt_of_lt_of_le (by have := World.block_lt_of_cell? _ _ hw271_5; first | rwa [add_block] at this | exact this) GW276.out))) _).trans (((cell_far (p := ⟨gb276, _, none⟩) (by first | exact Nat.ne_of_lt (Nat.lt_of_lt_of_le (by have := World.block_lt_of_cell? _ _ hw271_5; first | rwa [add_block] at this | exact this) GW276.out) | (rw [add_block]; exact Nat.ne_of_lt (Nat.lt_of_lt_of_le (by have := World.block_lt_of_cell? _ _ hw271_5; first | rwa [add_block] at this | exact this) GW276.out)) | (show (Addr.add _ _).block ≠ _; rw [add_block]; exact Nat.ne_of_lt (Nat.lt_of_lt_of_le (by have := World.block_lt_of_cell? _ _ hw271_5; first | rwa [add_block] at this | exact this) GW276.out)) | (dsimp only; exact Nat.ne_of_lt (Nat.lt_of_lt_of_le (by have := World.block_lt_of_cell? _ _ hw271_5; first | rwa [add_block] at this | exact this) GW276.out))) _).trans (hHeld.2.2.2.2.2.2.2.2.2.2.2))))))))⟩ (fun hHeld => ?_)
         clear hK K
         refine done_ (done_of HT_.out (by kernel_rfl)) ?_
         have n0_ : Aside0 (Kd.V k44 44 ((((w22.setCell ⟨gb276, 0, none⟩ (.int .i64 t272)).setCell ⟨gb276, 1, none⟩ (.string t273)).setCell ⟨gb276, 2, none⟩ (.string t274)).setCell ⟨gb276, 3, none⟩ (.int .i64 t275)) w.heap.size (fun k_ => k_ ≠ gb269 ∧ k_ ≠ gb276) u270000 x270000_1) := ⟨by (with_reducible repeat (first | apply Kd.V_alloc | apply Kd.V_drewN | apply Kd.V_drew)); exact Kd.V_mono (Kd.V_far (p := ⟨gb276, 3, none⟩) (Kd.V_far (p := ⟨gb276, 2, none⟩) (Kd.V_far (p := ⟨gb276, 1, none⟩) (Kd.V_far (p := ⟨gb276, 0, none⟩) (Kd.V_mono HO_270000.out (fun k_ hk => (⟨hk, hk.2⟩ : _ ∧ k_ ≠ gb276))) (fun _ hk => hk.2) _) (fun _ hk => hk.2) (.string t273)) (fun _ hk => hk.2) (.string t274)) (fun _ hk => hk.2) _) (fun _ hk => ⟨hk.1.1, hk.1.2⟩)⟩
         have n1_ : Aside0 (((((w22.setCell ⟨gb276, 0, none⟩ (.int .i64 t272)).setCell ⟨gb276, 1, none⟩ (.string t273)).setCell ⟨gb276, 2, none⟩ (.string t274)).setCell ⟨gb276, 3, none⟩ (.int .i64 t275)).heap[gb269]? = some (.cells #[u270000, .bool x270001_1, .bool x270002_1, .int .i64 x270003_1] 27 (0, 0))) := ⟨by (with_reducible repeat (first | apply blk_drewN | apply blk_drew | apply blk_alloc)); refine blk_far ?_ NB269_276.out _; (with_reducible repeat (first | apply blk_drewN | apply blk_drew | apply blk_alloc)); refine blk_far ?_ NB269_276.out _; (with_reducible repeat (first | apply blk_drewN | apply blk_drew | apply blk_alloc)); refine blk_far ?_ NB269_276.out _; (with_reducible repeat (first | apply blk_drewN | apply blk_drew | apply blk_alloc)); refine blk_far ?_ NB269_276.out _; (with_reducible repeat (first | apply blk_drewN | apply blk_drew | apply blk_alloc)); exact BK269.out⟩
         have n2_ : Aside0 (((((w22.setCell ⟨gb276, 0, none⟩ (.int .i64 t272)).setCell ⟨gb276, 1, none⟩ (.string t273)).setCell ⟨gb276, 2, none⟩ (.string t274)).setCell ⟨gb276, 3, none⟩ (.int .i64 t275)).heap[gb276]? = some (.cells #[.int .i64 t272, .string t273, .string t274, .int .i64 t275] 41 (0, 0))) := ⟨by (with_reducible repeat (first | apply blk_drewN | apply blk_drew | apply blk_alloc)); refine blk_put (cs := #[.int .i64 t272, .string t273, .string t274, .int .i64 0]) ?_ 3 _ rfl; (with_reducible repeat (first | apply blk_drewN | apply blk_drew | apply blk_alloc)); refine blk_put (cs := #[.int .i64 t272, .string t273, .string (⟨#[]⟩ : ByteArray), .int .i64 0]) ?_ 2 _ rfl; (with_reducible repeat (first | apply blk_drewN | apply blk_drew | apply blk_alloc)); refine blk_put (cs := #[.int .i64 t272, .string (⟨#[]⟩ : ByteArray), .string (⟨#[]⟩ : ByteArray), .int .i64 0]) ?_ 1 _ rfl; (with_reducible repeat (first | apply blk_drewN | apply blk_drew | apply blk_alloc)); refine blk_put (cs := #[.int .i64 0, .string (⟨#[]⟩ : ByteArray), .string (⟨#[]⟩ : ByteArray), .int .i64 0]) ?_ 0 _ rfl; (with_reducible repeat (first | apply blk_drewN | apply blk_drew | apply blk_alloc)); exact BK276.out⟩
         have n3_ : Aside0 (Below w.heap.size w ((((w22.setCell ⟨gb276, 0, none⟩ (.int .i64 t272)).setCell ⟨gb276, 1, none⟩ (.string t273)).setCell ⟨gb276, 2, none⟩ (.string t274)).setCell ⟨gb276, 3, none⟩ (.int .i64 t275))) := ⟨by repeat (first | (with_reducible first | exact HB.out | apply below_alloc | apply pw_below_drewN | apply below_drew1 | refine below_set ?_ GE269.out | refine below_set ?_ GE276.out) | exact HB.out)⟩
         (try clear HO_270000)
         (try clear BK269)
         (try clear BK276)
         (try clear HB)
         generalize ((((w22.setCell ⟨gb276, 0, none⟩ (.int .i64 t272)).setCell ⟨gb276, 1, none⟩ (.string t273)).setCell ⟨gb276, 2, none⟩ (.string t274)).setCell ⟨gb276, 3, none⟩ (.int .i64 t275)) = w27 at n0_ n1_ n2_ n3_ ⊢
         have HO_270000 := n0_
         have BK269 := n1_
         have BK276 := n2_
         have HB := n3_
         clear n0_ n1_ n2_ n3_
         have hnb28 := NB269_276.out
         have hnc28 := NB276_269.out
         have hcz29_0 : w27.cell? ⟨gb269, 0, none⟩ = some (u270000) := (blk_cell BK269.out 0).trans rfl
         have hcz29_1 : w27.cell? ⟨gb269, 1, none⟩ = some (.bool x270001_1) := (blk_cell BK269.out 1).trans rfl
         have hcz29_2 : w27.cell? ⟨gb269, 2, none⟩ = some (.bool x270002_1) := (blk_cell BK269.out 2).trans rfl
         have hcz29_3 : w27.cell? ⟨gb269, 3, none⟩ = some (.int .i64 x270003_1) := (blk_cell BK269.out 3).trans rfl
         have hfz29_0 := blk_frozen BK269.out 0
         have hfz29_1 := blk_frozen BK269.out 1
         have hfz29_2 := blk_frozen BK269.out 2
         have hfz29_3 := blk_frozen BK269.out 3
         have hcz30_0 : w27.cell? ⟨gb276, 0, none⟩ = some (.int .i64 t272) := (blk_cell BK276.out 0).trans rfl
         have hcz30_1 : w27.cell? ⟨gb276, 1, none⟩ = some (.string t273) := (blk_cell BK276.out 1).trans rfl
         have hcz30_2 : w27.cell? ⟨gb276, 2, none⟩ = some (.string t274) := (blk_cell BK276.out 2).trans rfl
         have hcz30_3 : w27.cell? ⟨gb276, 3, none⟩ = some (.int .i64 t275) := (blk_cell BK276.out 3).trans rfl
         have hfz30_0 := blk_frozen BK276.out 0
         have hfz30_1 := blk_frozen BK276.out 1
         have hfz30_2 := blk_frozen BK276.out 2
         have hfz30_3 := blk_frozen BK276.out 3
         obtain ⟨Ao31, co31, eo31⟩ := Kd.V_slice HO_270000.out
         subst eo31
         go_upto_if 63 with (first | ((with_reducible refine gate_callee (f := 17) rfl ?_); refine goesL_ (some 54) rfl rfl Try.func17 (by kernel_rfl) rfl #[.agg #[.slice Ao31 x270000_1.length co31, .bool x270001_1, .bool x270002_1, .int .i64 x270003_1], .int .i64 (Int.tmod (wrap64 ((rd_T37 l0 x8_1).f1)) 4), .agg #[.int .i64 t272, .string t273, .string t274, .int .i64 t275]] rfl (by (try simp only [List.map_toArray, List.map_cons, List.map_nil]); first | done | rfl | (simp only [List.length_drop, List.length_take]; rfl)) ?_; (with_reducible refine (nand_Erase.calls (fun k_ => (k_ ≠ gb269 ∧ k_ ≠ gb276)) _ _ x270000_1 x270001_1 x270002_1 x270003_1 (Int.tmod (wrap64 ((rd_T37 l0 x8_1).f1)) 4) t272 t273 t274 t275 t277 t280 t281 t282 t283 _ ?side1 A17.out).mono ?_); (case side1 => exact HO_270000.out); rintro e w32 ⟨v278, rfl, ho0, hb⟩; refine ⟨_, rfl, ?_⟩; have n0_ := Aside0.mk (Kd.V_below (by (with_reducible repeat (first | apply Kd.V_alloc | apply Kd.V_drewN | apply Kd.V_drew)); exact HO_270000.out) hb); have n1_ := Aside0.mk (Kd.V_lower (Kd.V_mono (ok' := fun k_ => k_ ≠ gb269 ∧ k_ ≠ gb276) ho0 (fun k_ hk_ => ⟨Or.elim hk_ (fun hs_ => hs_.1) (fun hn_ => (Kd.freshB (g := gb269) (o := .cells #[.slice Ao31 x270000_1.length co31, .bool x270001_1, .bool x270002_1, .int .i64 x270003_1] 27 (0, 0)) (by (with_reducible repeat (first | apply blk_drewN | apply blk_drew | apply blk_alloc)); exact BK269.out) k_ hn_)), Or.elim hk_ (fun hs_ => hs_.2) (fun hn_ => (Kd.freshB (g := gb276) (o := .cells #[.int .i64 t272, .string t273, .string t274, .int .i64 t275] 41 (0, 0)) (by (with_reducible repeat (first | apply blk_drewN | apply blk_drew | apply blk_alloc)); exact BK276.out) k_ hn_))⟩)) (below_size (by repeat (first | (with_reducible first | exact HB.out | apply below_alloc | apply pw_below_drewN | apply below_drew1 | refine below_set ?_ GE269.out | refine below_set ?_ GE276.out) | exact HB.out)))); have n2_ := Aside0.mk (blk_below (g := gb269) (o := .cells #[.slice Ao31 x270000_1.length co31, .bool x270001_1, .bool x270002_1, .int .i64 x270003_1] 27 (0, 0)) (by (with_reducible repeat (first | apply blk_drewN | apply blk_drew | apply blk_alloc)); exact BK269.out) hb); have n3_ := Aside0.mk (blk_below (g := gb276) (o := .cells #[.int .i64 t272, .string t273, .string t274, .int .i64 t275] 41 (0, 0)) (by (with_reducible repeat (first | apply blk_drewN | apply blk_drew | apply blk_alloc)); exact BK276.out) hb); have n4_ := Aside0.mk (below_step (by repeat (first | (with_reducible first | exact HB.out | apply below_alloc | apply pw_below_drewN | apply below_drew1 | refine below_set ?_ GE269.out | refine below_set ?_ GE276.out) | exact HB.out)) hb); clear HO_270000; clear BK269; clear BK276; clear HB; have HO_270000 := n0_; have HO279 := n1_; have BK269 := n2_; have BK276 := n3_; have HB := n4_; clear n0_ n1_ n2_ n3_ n4_; (try clear hb); (try clear hb2); (try clear hk); (try clear hi); (try clear ho0)) | ((with_reducible refine gate_dst (N := 11) rfl ?_); refine box_event ?hg (N := 11) ?hd (cs := #[.slice none 0 0, .bool false, .bool false, .int .i64 0]) (t := 27) ?hr ?_; (case hd => rfl); (case hg => rfl); (case hr => first | (go_simp; done) | (go_simp; rfl)); intro gb284 hg w33 hbox hb; have n0_ := Aside0.mk (Kd.V_below (Kd.V_elderB (by (with_reducible repeat (first | apply Kd.V_alloc | apply Kd.V_drewN | apply Kd.V_drew)); exact HO_270000.out) gb284 (Nat.le_of_eq hg.symm)) hb); have n1_ := Aside0.mk (Kd.V_below (Kd.V_elderB (by (with_reducible repeat (first | apply Kd.V_alloc | apply Kd.V_drewN | apply Kd.V_drew)); exact HO279.out) gb284 (Nat.le_of_eq hg.symm)) hb); have n2_ := Aside0.mk (blk_below (g := gb269) (o := .cells #[.slice Ao31 x270000_1.length co31, .bool x270001_1, .bool x270002_1, .int .i64 x270003_1] 27 (0, 0)) (by (with_reducible repeat (first | apply blk_drewN | apply blk_drew | apply blk_alloc)); exact BK269.out) hb); have n3_ := Aside0.mk (blk_below (g := gb276) (o := .cells #[.int .i64 t272, .string t273, .string t274, .int .i64 t275] 41 (0, 0)) (by (with_reducible repeat (first | apply blk_drewN | apply blk_drew | apply blk_alloc)); exact BK276.out) hb); have n4_ := Aside0.mk (below_step (by repeat (first | (with_reducible first | exact HB.out | apply below_alloc | apply pw_below_drewN | apply below_drew1 | refine below_set ?_ GE269.out | refine below_set ?_ GE276.out) | exact HB.out)) hb); have n5_ := Aside0.mk (hbox); have n6_ := Aside0.mk ((by rw [hg]; exact (below_size (by repeat (first | (with_reducible first | exact HB.out | apply below_alloc | apply pw_below_drewN | apply below_drew1 | refine below_set ?_ GE269.out | refine below_set ?_ GE276.out) | exact HB.out))) : w.heap.size ≤ gb284)); have n7_ := Aside0.mk ((by rw [hg]; exact (below_size (by repeat (first | (with_reducible first | exact HB.out | apply below_alloc | apply pw_below_drewN | apply below_drew1 | refine below_set ?_ GE269.out | refine below_set ?_ GE276.out) | exact HB.out))) : w.heap.size ≤ gb284)); have n8_ := Aside0.mk ((by rw [hg]; exact Nat.ne_of_lt (blk_lt (g := gb269) (o := .cells #[.slice Ao31 x270000_1.length co31, .bool x270001_1, .bool x270002_1, .int .i64 x270003_1] 27 (0, 0)) (by (with_reducible repeat (first | apply blk_drewN | apply blk_drew | apply blk_alloc)); exact BK269.out)) : gb269 ≠ gb284)); have n9_ := Aside0.mk ((by rw [hg]; exact Nat.ne_of_gt (blk_lt (g := gb269) (o := .cells #[.slice Ao31 x270000_1.length co31, .bool x270001_1, .bool x270002_1, .int .i64 x270003_1] 27 (0, 0)) (by (with_reducible repeat (first | apply blk_drewN | apply blk_drew | apply blk_alloc)); exact BK269.out)) : gb284 ≠ gb269)); have n10_ := Aside0.mk ((by rw [hg]; exact Nat.ne_of_lt (blk_lt (g := gb276) (o := .cells #[.int .i64 t272, .string t273, .string t274, .int .i64 t275] 41 (0, 0)) (by (with_reducible repeat (first | apply blk_drewN | apply blk_drew | apply blk_alloc)); exact BK276.out)) : gb276 ≠ gb284)); have n11_ := Aside0.mk ((by rw [hg]; exact Nat.ne_of_gt (blk_lt (g := gb276) (o := .cells #[.int .i64 t272, .string t273, .string t274, .int .i64 t275] 41 (0, 0)) (by (with_reducible repeat (first | apply blk_drewN | apply blk_drew | apply blk_alloc)); exact BK276.out)) : gb284 ≠ gb276)); clear HO_270000; clear HO279; clear BK269; clear BK276; clear HB; have HO_270000 := n0_; have HO279 := n1_; have BK269 := n2_; have BK276 := n3_; have HB := n4_; have BK284 := n5_; have GW284 := n6_; have GE284 := n7_; have NB269_284 := n8_; have NB284_269 := n9_; have NB276_284 := n10_; have NB284_276 := n11_; clear n0_ n1_ n2_ n3_ n4_ n5_ n6_ n7_ n8_ n9_ n10_ n11_; clear hb hbox hg; obtain ⟨Ao34, co34, eo34⟩ := Kd.V_slice HO279.out; subst eo34; have hnb35 := NB284_269.out; have hnc35 := NB269_284.out; have hnb36 := NB284_276.out; have hnc36 := NB276_284.out; have hcz37_0 : w33.cell? ⟨gb284, 0, none⟩ = some (.slice none 0 0) := (blk_cell BK284.out 0).trans rfl; have hcz37_1 : w33.cell? ⟨gb284, 1, none⟩ = some (.bool false) := (blk_cell BK284.out 1).trans rfl; have hcz37_2 : w33.cell? ⟨gb284, 2, none⟩ = some (.bool false) := (blk_cell BK284.out 2).trans rfl; have hcz37_3 : w33.cell? ⟨gb284, 3, none⟩ = some (.int .i64 0) := (blk_cell BK284.out 3).trans rfl; have hfz37_0 := blk_frozen BK284.out 0; have hfz37_1 := blk_frozen BK284.out 1; have hfz37_2 := blk_frozen BK284.out 2; have hfz37_3 := blk_frozen BK284.out 3; have p285 : 0 ≤ (x8_1 : Int) := of_decide_eq_true (by first | (with_reducible assumption) | assumption); have q285 : x8_1 < (l0.length : Int) := of_decide_eq_true (by first | (with_reducible assumption) | assumption); obtain ⟨ad285, e285, hx285_0, hx285_1, hx285_2, hx285_3, hx285_4, hx285_5⟩ := at_T37 HR0.out x8_1 p285 q285; obtain rfl : ad270 = ad285 := (by injection e285); have hn285_0 : ad270.block ≠ gb284 := Nat.ne_of_lt (Nat.lt_of_lt_of_le (by have := World.block_lt_of_cell? _ _ hx285_0; first | rwa [add_block] at this | exact this) GW284.out); have hn285_1 : ad270.block ≠ gb284 := Nat.ne_of_lt (Nat.lt_of_lt_of_le (by have := World.block_lt_of_cell? _ _ hx285_0; first | rwa [add_block] at this | exact this) GW284.out); have hn285_2 : ad270.block ≠ gb284 := Nat.ne_of_lt (Nat.lt_of_lt_of_le (by have := World.block_lt_of_cell? _ _ hx285_0; first | rwa [add_block] at this | exact this) GW284.out); have hn285_3 : ad270.block ≠ gb284 := Nat.ne_of_lt (Nat.lt_of_lt_of_le (by have := World.block_lt_of_cell? _ _ hx285_0; first | rwa [add_block] at this | exact this) GW284.out); replace hx285_0 := (HB.out.cell (World.block_lt_of_cell? w _ hx285_0)).trans hx285_0; replace hx285_1 := (HB.out.cell (World.block_lt_of_cell? w _ hx285_1)).trans hx285_1; replace hx285_2 := (HB.out.cell (World.block_lt_of_cell? w _ hx285_2)).trans hx285_2; replace hx285_3 := (HB.out.cell (World.block_lt_of_cell? w _ hx285_3)).trans hx285_3; replace hx285_4 := (HB.out.cell (World.block_lt_of_cell? w _ hx285_4)).trans hx285_4; replace hx285_5 := (HB.out.cell (World.block_lt_of_cell? w _ hx285_5)).trans hx285_5; replace hx285_0 := (cell_far (p := ⟨gb284, 0, none⟩) (by first | (rw [add_block]; exact hn285_0) | (show (Addr.add _ _).block ≠ _; rw [add_block]; exact hn285_0) | exact hn285_0) (.slice Ao34 t277.length co34)).trans hx285_0; replace hx285_1 := (cell_far (p := ⟨gb284, 0, none⟩) (by first | (rw [add_block]; exact hn285_0) | (show (Addr.add _ _).block ≠ _; rw [add_block]; exact hn285_0) | exact hn285_0) (.slice Ao34 t277.length co34)).trans hx285_1; replace hx285_2 := (cell_far (p := ⟨gb284, 0, none⟩) (by first | (rw [add_block]; exact hn285_0) | (show (Addr.add _ _).block ≠ _; rw [add_block]; exact hn285_0) | exact hn285_0) (.slice Ao34 t277.length co34)).trans hx285_2; replace hx285_3 := (cell_far (p := ⟨gb284, 0, none⟩) (by first | (rw [add_block]; exact hn285_0) | (show (Addr.add _ _).block ≠ _; rw [add_block]; exact hn285_0) | exact hn285_0) (.slice Ao34 t277.length co34)).trans hx285_3; replace hx285_4 := (cell_far (p := ⟨gb284, 0, none⟩) (by first | (rw [add_block]; exact hn285_0) | (show (Addr.add _ _).block ≠ _; rw [add_block]; exact hn285_0) | exact hn285_0) (.slice Ao34 t277.length co34)).trans hx285_4; replace hx285_5 := (cell_far (p := ⟨gb284, 0, none⟩) (by first | (rw [add_block]; exact hn285_0) | (show (Addr.add _ _).block ≠ _; rw [add_block]; exact hn285_0) | exact hn285_0) (.slice Ao34 t277.length co34)).trans hx285_5; replace hx285_0 := (cell_far (p := ⟨gb284, 1, none⟩) (by first | (rw [add_block]; exact hn285_1) | (show (Addr.add _ _).block ≠ _; rw [add_block]; exact hn285_1) | exact hn285_1) (.bool t280)).trans hx285_0; replace hx285_1 := (cell_far (p := ⟨gb284, 1, none⟩) (by first | (rw [add_block]; exact hn285_1) | (show (Addr.add _ _).block ≠ _; rw [add_block]; exact hn285_1) | exact hn285_1) (.bool t280)).trans hx285_1; replace hx285_2 := (cell_far (p := ⟨gb284, 1, none⟩) (by first | (rw [add_block]; exact hn285_1) | (show (Addr.add _ _).block ≠ _; rw [add_block]; exact hn285_1) | exact hn285_1) (.bool t280)).trans hx285_2; replace hx285_3 := (cell_far (p := ⟨gb284, 1, none⟩) (by first | (rw [add_block]; exact hn285_1) | (show (Addr.add _ _).block ≠ _; rw [add_block]; exact hn285_1) | exact hn285_1) (.bool t280)).trans hx285_3; replace hx285_4 := (cell_far (p := ⟨gb284, 1, none⟩) (by first | (rw [add_block]; exact hn285_1) | (show (Addr.add _ _).block ≠ _; rw [add_block]; exact hn285_1) | exact hn285_1) (.bool t280)).trans hx285_4; replace hx285_5 := (cell_far (p := ⟨gb284, 1, none⟩) (by first | (rw [add_block]; exact hn285_1) | (show (Addr.add _ _).block ≠ _; rw [add_block]; exact hn285_1) | exact hn285_1) (.bool t280)).trans hx285_5; replace hx285_0 := (cell_far (p := ⟨gb284, 2, none⟩) (by first | (rw [add_block]; exact hn285_2) | (show (Addr.add _ _).block ≠ _; rw [add_block]; exact hn285_2) | exact hn285_2) (.bool t281)).trans hx285_0; replace hx285_1 := (cell_far (p := ⟨gb284, 2, none⟩) (by first | (rw [add_block]; exact hn285_2) | (show (Addr.add _ _).block ≠ _; rw [add_block]; exact hn285_2) | exact hn285_2) (.bool t281)).trans hx285_1; replace hx285_2 := (cell_far (p := ⟨gb284, 2, none⟩) (by first | (rw [add_block]; exact hn285_2) | (show (Addr.add _ _).block ≠ _; rw [add_block]; exact hn285_2) | exact hn285_2) (.bool t281)).trans hx285_2; replace hx285_3 := (cell_far (p := ⟨gb284, 2, none⟩) (by first | (rw [add_block]; exact hn285_2) | (show (Addr.add _ _).block ≠ _; rw [add_block]; exact hn285_2) | exact hn285_2) (.bool t281)).trans hx285_3; replace hx285_4 := (cell_far (p := ⟨gb284, 2, none⟩) (by first | (rw [add_block]; exact hn285_2) | (show (Addr.add _ _).block ≠ _; rw [add_block]; exact hn285_2) | exact hn285_2) (.bool t281)).trans hx285_4; replace hx285_5 := (cell_far (p := ⟨gb284, 2, none⟩) (by first | (rw [add_block]; exact hn285_2) | (show (Addr.add _ _).block ≠ _; rw [add_block]; exact hn285_2) | exact hn285_2) (.bool t281)).trans hx285_5; replace hx285_0 := (cell_far (p := ⟨gb284, 3, none⟩) (by first | (rw [add_block]; exact hn285_3) | (show (Addr.add _ _).block ≠ _; rw [add_block]; exact hn285_3) | exact hn285_3) (.int .i64 t282)).trans hx285_0; replace hx285_1 := (cell_far (p := ⟨gb284, 3, none⟩) (by first | (rw [add_block]; exact hn285_3) | (show (Addr.add _ _).block ≠ _; rw [add_block]; exact hn285_3) | exact hn285_3) (.int .i64 t282)).trans hx285_1; replace hx285_2 := (cell_far (p := ⟨gb284, 3, none⟩) (by first | (rw [add_block]; exact hn285_3) | (show (Addr.add _ _).block ≠ _; rw [add_block]; exact hn285_3) | exact hn285_3) (.int .i64 t282)).trans hx285_2; replace hx285_3 := (cell_far (p := ⟨gb284, 3, none⟩) (by first | (rw [add_block]; exact hn285_3) | (show (Addr.add _ _).block ≠ _; rw [add_block]; exact hn285_3) | exact hn285_3) (.int .i64 t282)).trans hx285_3; replace hx285_4 := (cell_far (p := ⟨gb284, 3, none⟩) (by first | (rw [add_block]; exact hn285_3) | (show (Addr.add _ _).block ≠ _; rw [add_block]; exact hn285_3) | exact hn285_3) (.int .i64 t282)).trans hx285_4; replace hx285_5 := (cell_far (p := ⟨gb284, 3, none⟩) (by first | (rw [add_block]; exact hn285_3) | (show (Addr.add _ _).block ≠ _; rw [add_block]; exact hn285_3) | exact hn285_3) (.int .i64 t282)).trans hx285_5; clear hn285_0; clear hn285_1; clear hn285_2; clear hn285_3; replace p285 := eq_true p285; replace q285 := eq_true q285))
         (try simp only [Act.put, List.setIfInBounds_toArray, List.set_cons_zero, List.set_cons_succ])
         go_cut [12] (fun v12 wc => ∃ (kq : Nat) (x12_17 : Int) (x285000_17 : List (S44)) (x285001_17 : Bool) (x285002_17 : Bool) (x285003_17 : Int) (u285000 : Value), v12 = .int .i64 x12_17 ∧ Aside0 (clinkerlaw05_NandCounts.j2 kq l0 true x8_1 x12_17 x270000_1 x270001_1 x270002_1 x270003_1 x285000_17 x285001_17 x285002_17 x285003_17 = some r) ∧ Aside0 (kq ≤ kj10) ∧ Aside0 (Kd.V k44 44 wc w.heap.size (fun k_ => k_ ≠ gb269 ∧ k_ ≠ gb276 ∧ k_ ≠ gb284) (.slice Ao31 x270000_1.length co31) x270000_1) ∧ Aside0 (Kd.V k44 44 wc w.heap.size (fun k_ => k_ ≠ gb269 ∧ k_ ≠ gb276 ∧ k_ ≠ gb284) u285000 x285000_17) ∧ Aside0 (wc.heap[gb269]? = some (.cells #[(.slice Ao31 x270000_1.length co31), .bool x270001_1, .bool x270002_1, .int .i64 x270003_1] 27 (0, 0))) ∧ Aside0 (wc.heap[gb276]? = some (.cells #[.int .i64 t272, .string t273, .string t274, .int .i64 t275] 41 (0, 0))) ∧ Aside0 (wc.heap[gb284]? = some (.cells #[u285000, .bool x285001_17, .bool x285002_17, .int .i64 x285003_17] 27 (0, 0))) ∧ Aside0 (Below w.heap.size w wc))
         case first =>
          have H := HC18.out
          clear HC18
          by_cases c38 : (Int.tmod ((rd_T37 l0 x8_1).f0) 3) > 0
          ·
           rw [if_pos c38] at H
           have c38b0 : decide (0 < (Int.tmod ((rd_T37 l0 x8_1).f0) 3)) = true := decide_eq_true c38
           clear c38
           (first | rw [c38b0] | (simp only [i64_w, i32_w]; rw [c38b0]) | skip)
           replace H := Option.bind_eq_some_iff.mp H
           obtain ⟨⟨t287, t290, t291, t292, t293⟩, A390, H⟩ := H
           replace H : (clinkerlaw05_NandCounts.j2 kj10 l0 true x8_1 t293 x270000_1 x270001_1 x270002_1 x270003_1 t287 t290 t291 t292) = some r := H
           have A39 := Aside0.mk A390
           clear A390
           have H' := Aside0.mk H
           clear H
           try go_wp2
           have n0_ : Aside0 (Kd.V k44 44 ((((w33.setCell ⟨gb284, 0, none⟩ (.slice Ao34 t277.length co34)).setCell ⟨gb284, 1, none⟩ (.bool t280)).setCell ⟨gb284, 2, none⟩ (.bool t281)).setCell ⟨gb284, 3, none⟩ (.int .i64 t282)) w.heap.size (fun k_ => k_ ≠ gb269 ∧ k_ ≠ gb276 ∧ k_ ≠ gb284) (.slice Ao31 x270000_1.length co31) x270000_1) := ⟨by (with_reducible repeat (first | apply Kd.V_alloc | apply Kd.V_drewN | apply Kd.V_drew)); exact Kd.V_mono (Kd.V_far (p := ⟨gb284, 3, none⟩) (Kd.V_far (p := ⟨gb284, 2, none⟩) (Kd.V_far (p := ⟨gb284, 1, none⟩) (Kd.V_far (p := ⟨gb284, 0, none⟩) (Kd.V_mono HO_270000.out (fun k_ hk => (⟨hk, hk.2⟩ : _ ∧ k_ ≠ gb284))) (fun _ hk => hk.2) _) (fun _ hk => hk.2) (.bool t280)) (fun _ hk => hk.2) (.bool t281)) (fun _ hk => hk.2) _) (fun _ hk => ⟨hk.1.1.1, ⟨hk.1.1.2, hk.1.2⟩⟩)⟩
           have n1_ : Aside0 (Kd.V k44 44 ((((w33.setCell ⟨gb284, 0, none⟩ (.slice Ao34 t277.length co34)).setCell ⟨gb284, 1, none⟩ (.bool t280)).setCell ⟨gb284, 2, none⟩ (.bool t281)).setCell ⟨gb284, 3, none⟩ (.int .i64 t282)) w.heap.size (fun k_ => k_ ≠ gb269 ∧ k_ ≠ gb276 ∧ k_ ≠ gb284) (.slice Ao34 t277.length co34) t277) := ⟨by (with_reducible repeat (first | apply Kd.V_alloc | apply Kd.V_drewN | apply Kd.V_drew)); exact Kd.V_mono (Kd.V_far (p := ⟨gb284, 3, none⟩) (Kd.V_far (p := ⟨gb284, 2, none⟩) (Kd.V_far (p := ⟨gb284, 1, none⟩) (Kd.V_far (p := ⟨gb284, 0, none⟩) (Kd.V_mono HO279.out (fun k_ hk => (⟨hk, hk.2⟩ : _ ∧ k_ ≠ gb284))) (fun _ hk => hk.2) _) (fun _ hk => hk.2) (.bool t280)) (fun _ hk => hk.2) (.bool t281)) (fun _ hk => hk.2) _) (fun _ hk => ⟨hk.1.1.1, ⟨hk.1.1.2, hk.1.2⟩⟩)⟩
           have n2_ : Aside0 (((((w33.setCell ⟨gb284, 0, none⟩ (.slice Ao34 t277.length co34)).setCell ⟨gb284, 1, none⟩ (.bool t280)).setCell ⟨gb284, 2, none⟩ (.bool t281)).setCell ⟨gb284, 3, none⟩ (.int .i64 t282)).heap[gb269]? = some (.cells #[.slice Ao31 x270000_1.length co31, .bool x270001_1, .bool x270002_1, .int .i64 x270003_1] 27 (0, 0))) := ⟨by (with_reducible repeat (first | apply blk_drewN | apply blk_drew | apply blk_alloc)); refine blk_far ?_ NB269_284.out _; (with_reducible repeat (first | apply blk_drewN | apply blk_drew | apply blk_alloc)); refine blk_far ?_ NB269_284.out _; (with_reducible repeat (first | apply blk_drewN | apply blk_drew | apply blk_alloc)); refine blk_far ?_ NB269_284.out _; (with_reducible repeat (first | apply blk_drewN | apply blk_drew | apply blk_alloc)); refine blk_far ?_ NB269_284.out _; (with_reducible repeat (first | apply blk_drewN | apply blk_drew | apply blk_alloc)); exact BK269.out⟩
           have n3_ : Aside0 (((((w33.setCell ⟨gb284, 0, none⟩ (.slice Ao34 t277.length co34)).setCell ⟨gb284, 1, none⟩ (.bool t280)).setCell ⟨gb284, 2, none⟩ (.bool t281)).setCell ⟨gb284, 3, none⟩ (.int .i64 t282)).heap[gb276]? = some (.cells #[.int .i64 t272, .string t273, .string t274, .int .i64 t275] 41 (0, 0))) := ⟨by (with_reducible repeat (first | apply blk_drewN | apply blk_drew | apply blk_alloc)); refine blk_far ?_ NB276_284.out _; (with_reducible repeat (first | apply blk_drewN | apply blk_drew | apply blk_alloc)); refine blk_far ?_ NB276_284.out _; (with_reducible repeat (first | apply blk_drewN | apply blk_drew | apply blk_alloc)); refine blk_far ?_ NB276_284.out _; (with_reducible repeat (first | apply blk_drewN | apply blk_drew | apply blk_alloc)); refine blk_far ?_ NB276_284.out _; (with_reducible repeat (first | apply blk_drewN | apply blk_drew | apply blk_alloc)); exact BK276.out⟩
           have n4_ : Aside0 (((((w33.setCell ⟨gb284, 0, none⟩ (.slice Ao34 t277.length co34)).setCell ⟨gb284, 1, none⟩ (.bool t280)).setCell ⟨gb284, 2, none⟩ (.bool t281)).setCell ⟨gb284, 3, none⟩ (.int .i64 t282)).heap[gb284]? = some (.cells #[.slice Ao34 t277.length co34, .bool t280, .bool t281, .int .i64 t282] 27 (0, 0))) := ⟨by (with_reducible repeat (first | apply blk_drewN | apply blk_drew | apply blk_alloc)); refine blk_put (cs := #[.slice Ao34 t277.length co34, .bool t280, .bool t281, .int .i64 0]) ?_ 3 _ rfl; (with_reducible repeat (first | apply blk_drewN | apply blk_drew | apply blk_alloc)); refine blk_put (cs := #[.slice Ao34 t277.length co34, .bool t280, .bool false, .int .i64 0]) ?_ 2 _ rfl; (with_reducible repeat (first | apply blk_drewN | apply blk_drew | apply blk_alloc)); refine blk_put (cs := #[.slice Ao34 t277.length co34, .bool false, .bool false, .int .i64 0]) ?_ 1 _ rfl; (with_reducible repeat (first | apply blk_drewN | apply blk_drew | apply blk_alloc)); refine blk_put (cs := #[.slice none 0 0, .bool false, .bool false, .int .i64 0]) ?_ 0 _ rfl; (with_reducible repeat (first | apply blk_drewN | apply blk_drew | apply blk_alloc)); exact BK284.out⟩
           have n5_ : Aside0 (Below w.heap.size w ((((w33.setCell ⟨gb284, 0, none⟩ (.slice Ao34 t277.length co34)).setCell ⟨gb284, 1, none⟩ (.bool t280)).setCell ⟨gb284, 2, none⟩ (.bool t281)).setCell ⟨gb284, 3, none⟩ (.int .i64 t282))) := ⟨by repeat (first | (with_reducible first | exact HB.out | apply below_alloc | apply pw_below_drewN | apply below_drew1 | refine below_set ?_ GE269.out | refine below_set ?_ GE276.out | refine below_set ?_ GE284.out) | exact HB.out)⟩
           (try clear HO_270000)
           (try clear HO279)
           (try clear BK269)
           (try clear BK276)
           (try clear BK284)
           (try clear HB)
           generalize ((((w33.setCell ⟨gb284, 0, none⟩ (.slice Ao34 t277.length co34)).setCell ⟨gb284, 1, none⟩ (.bool t280)).setCell ⟨gb284, 2, none⟩ (.bool t281)).setCell ⟨gb284, 3, none⟩ (.int .i64 t282)) = w40 at n0_ n1_ n2_ n3_ n4_ n5_ ⊢
           have HO_270000 := n0_
           have HO279 := n1_
           have BK269 := n2_
           have BK276 := n3_
           have BK284 := n4_
           have HB := n5_
           clear n0_ n1_ n2_ n3_ n4_ n5_
           have n0_ := Aside0.mk (Kd.V_drew HO_270000.out)
           have n1_ := Aside0.mk (Kd.V_drew HO279.out)
           have n2_ := Aside0.mk (blk_drew BK269.out)
           have n3_ := Aside0.mk (blk_drew BK276.out)
           have n4_ := Aside0.mk (blk_drew BK284.out)
           have n5_ := Aside0.mk (below_drew1 HB.out)
           clear HO_270000
           clear HO279
           clear BK269
           clear BK276
           clear BK284
           clear HB
           have HO_270000 := n0_
           have HO279 := n1_
           have BK269 := n2_
           have BK276 := n3_
           have BK284 := n4_
           have HB := n5_
           clear n0_ n1_ n2_ n3_ n4_ n5_
           have p286 : 0 ≤ (x8_1 : Int) := of_decide_eq_true (by first | (with_reducible assumption) | assumption)
           have q286 : x8_1 < (l0.length : Int) := of_decide_eq_true (by first | (with_reducible assumption) | assumption)
           obtain ⟨ad286, e286, hx286_0, hx286_1, hx286_2, hx286_3, hx286_4, hx286_5⟩ := at_T37 HR0.out x8_1 p286 q286
           have hw286_5 := hx286_5
           have hw286_4 := hx286_4
           have hw286_3 := hx286_3
           have hw286_2 := hx286_2
           have hw286_1 := hx286_1
           have hw286_0 := hx286_0
           obtain rfl : ad270 = ad286 := (by injection e286)
           replace hx286_0 := (HB.out.cell (World.block_lt_of_cell? w _ hx286_0)).trans hx286_0
           replace hx286_1 := (HB.out.cell (World.block_lt_of_cell? w _ hx286_1)).trans hx286_1
           replace hx286_2 := (HB.out.cell (World.block_lt_of_cell? w _ hx286_2)).trans hx286_2
           replace hx286_3 := (HB.out.cell (World.block_lt_of_cell? w _ hx286_3)).trans hx286_3
           replace hx286_4 := (HB.out.cell (World.block_lt_of_cell? w _ hx286_4)).trans hx286_4
           replace hx286_5 := (HB.out.cell (World.block_lt_of_cell? w _ hx286_5)).trans hx286_5
           replace p286 := eq_true p286
           replace q286 := eq_true q286
           refine start_ (n := 17) (S := fun w' => w'.cell? ⟨gb269, 0, none⟩ = some (.slice Ao31 x270000_1.length co31) ∧ w'.cell? ⟨gb269, 1, none⟩ = some (.bool x270001_1) ∧ w'.cell? ⟨gb269, 2, none⟩ = some (.bool x270002_1) ∧ w'.cell? ⟨gb269, 3, none⟩ = some (.int .i64 x270003_1) ∧ w'.cell? ⟨gb276, 0, none⟩ = some (.int .i64 t272) ∧ w'.cell? ⟨gb276, 1, none⟩ = some (.string t273) ∧ w'.cell? ⟨gb276, 2, none⟩ = some (.string t274) ∧ w'.cell? ⟨gb276, 3, none⟩ = some (.int .i64 t275) ∧ w'.cell? (ad270.add ((x8_1).toNat * 6)) = some (.int .u8 ((rd_T37 l0 x8_1).f0)) ∧ w'.cell? ⟨(ad270.add ((x8_1).toNat * 6)).block, (ad270.add ((x8_1).toNat * 6)).off + 1, none⟩ = some (.int .u8 ((rd_T37 l0 x8_1).f1)) ∧ w'.cell? ⟨(ad270.add ((x8_1).toNat * 6)).block, (ad270.add ((x8_1).toNat * 6)).off + 2, none⟩ = some (.int .u8 ((rd_T37 l0 x8_1).f2)) ∧ w'.cell? ⟨(ad270.add ((x8_1).toNat * 6)).block, (ad270.add ((x8_1).toNat * 6)).off + 3, none⟩ = some (.int .u8 ((rd_T37 l0 x8_1).f3)) ∧ w'.cell? ⟨(ad270.add ((x8_1).toNat * 6)).block, (ad270.add ((x8_1).toNat * 6)).off + 4, none⟩ = some (.string ((rd_T37 l0 x8_1).f4)) ∧ w'.cell? ⟨(ad270.add ((x8_1).toNat * 6)).block, (ad270.add ((x8_1).toNat * 6)).off + 5, none⟩ = some (.string ((rd_T37 l0 x8_1).f5))) (ds := []) #[false, false, false, false, false, false, false, false, false, false, false, false, false, false, false, false, false] (by kernel_rfl) rfl rfl ⟨(blk_cell BK269.out 0).trans rfl, (blk_cell BK269.out 1).trans rfl, (blk_cell BK269.out 2).trans rfl, (blk_cell BK269.out 3).trans rfl, (blk_cell BK276.out 0).trans rfl, (blk_cell BK276.out 1).trans rfl, (blk_cell BK276.out 2).trans rfl, (blk_cell BK276.out 3).trans rfl, ((HB.out.cell (World.block_lt_of_cell? w _ hw286_0)).trans hw286_0), ((HB.out.cell (World.block_lt_of_cell? w _ hw286_1)).trans hw286_1), ((HB.out.cell (World.block_lt_of_cell? w _ hw286_2)).trans hw286_2), ((HB.out.cell (World.block_lt_of_cell? w _ hw286_3)).trans hw286_3), ((HB.out.cell (World.block_lt_of_cell? w _ hw286_4)).trans hw286_4), ((HB.out.cell (World.block_lt_of_cell? w _ hw286_5)).trans hw286_5)⟩ (fun hHeld => ?_); refine with_tabW clinkerlaw05_NandCounts.tab11 clinkerlaw05_NandCounts.bits11 (fun HT_ HW_ => ?_)
           generalize w40.drew = w41 at HO_270000 HO279 BK269 BK276 BK284 HB hx286_0 hx286_1 hx286_2 hx286_3 hx286_4 hx286_5 hHeld ⊢
           refine pure_ (i := 1) (N := some 66) (v := ?_) (a' := ?_) #[false, true, false, false, false, false, false, false, false, false, false, false, false, false, false, false, false] rfl rfl (any_of HT_.out (by kernel_rfl)) (fun _ _ _ h => h) (Or.inl ⟨by rfl, ?_⟩) ?_ ?_
           rotate_left
           ·
            intro w'
            go_simp
            with_reducible rfl
           rotate_left
           ·
            simp only [Act.put, List.setIfInBounds_toArray, List.set_cons_zero, List.set_cons_succ, i64_w, i32_w]
            rfl
           refine pure_ (i := 2) (N := some 67) (v := ?_) (a' := ?_) #[false, true, true, false, false, false, false, false, false, false, false, false, false, false, false, false, false] rfl rfl (any_of HT_.out (by kernel_rfl)) (fun _ _ _ h => h) (Or.inl ⟨by rfl, ?_⟩) ?_ ?_
           rotate_left
           ·
            intro w'
            go_simp
            with_reducible rfl
           rotate_left
           ·
            simp only [Act.put, List.setIfInBounds_toArray, List.set_cons_zero, List.set_cons_succ, i64_w, i32_w]
            rfl
           refine pure_ (i := 3) (N := some 68) (v := ?_) (a' := ?_) #[false, true, true, true, false, false, false, false, false, false, false, false, false, false, false, false, false] rfl rfl (any_of HT_.out (by kernel_rfl)) (fun _ _ _ h => h) (Or.inl ⟨by rfl, ?_⟩) ?_ ?_
           rotate_left
           ·
            intro w'
            go_simp
            with_reducible rfl
           rotate_left
           ·
            simp only [Act.put, List.setIfInBounds_toArray, List.set_cons_zero, List.set_cons_succ, i64_w, i32_w]
            rfl
           refine pure_ (i := 4) (N := some 69) (v := ?_) (a' := ?_) #[false, true, true, true, true, false, false, false, false, false, false, false, false, false, false, false, false] rfl rfl (any_of HT_.out (by kernel_rfl)) (fun _ _ _ h => h) (Or.inl ⟨by rfl, ?_⟩) ?_ ?_
           rotate_left
           ·
            intro w'
            go_simp
            with_reducible rfl
           rotate_left
           ·
            simp only [Act.put, List.setIfInBounds_toArray, List.set_cons_zero, List.set_cons_succ, i64_w, i32_w]
            rfl
           refine pure_ (i := 5) (N := some 70) (v := ?_) (a' := ?_) #[false, true, true, true, true, true, false, false, false, false, false, false, false, false, false, false, false] rfl rfl (any_of HT_.out (by kernel_rfl)) (fun _ _ _ h => h) (Or.inl ⟨by rfl, ?_⟩) ?_ ?_
           rotate_left
           ·
            intro w'
            go_simp
            with_reducible rfl
           rotate_left
           ·
            simp only [Act.put, List.setIfInBounds_toArray, List.set_cons_zero, List.set_cons_succ, i64_w, i32_w]
            rfl
           refine pure_ (i := 9) (N := some 74) (v := ?_) (a' := ?_) #[false, true, true, true, true, true, false, false, false, true, false, false, false, false, false, false, false] rfl rfl (any_of HT_.out (by kernel_rfl)) (fun _ _ _ h => h) (Or.inl ⟨by rfl, ?_⟩) ?_ ?_
           rotate_left
           ·
            intro w'
            go_simp
            with_reducible rfl
           rotate_left
           ·
            simp only [Act.put, List.setIfInBounds_toArray, List.set_cons_zero, List.set_cons_succ, i64_w, i32_w]
            rfl
           refine take_ (i := 0) (N := some 65) (v := ?_) (a' := ?_) #[true, true, true, true, true, true, false, false, false, true, false, false, false, false, false, false, false] rfl rfl (take_ofW HT_.out HW_.out (by kernel_rfl)) (fun _ _ _ h => h) (Or.inl ⟨by rfl, ?_⟩) hHeld ?_ ?_
           rotate_left
           ·
            rintro w' ⟨s0, s1, s2, s3, s4, s5, s6, s7, s8, s9, s10, s11, s12, s13⟩
            go_simp
            with_reducible rfl
           rotate_left
           ·
            simp only [Act.put, List.setIfInBounds_toArray, List.set_cons_zero, List.set_cons_succ, i64_w, i32_w]
            rfl
           refine take_ (i := 6) (N := some 71) (v := ?_) (a' := ?_) #[true, true, true, true, true, true, true, false, false, true, false, false, false, false, false, false, false] rfl rfl (take_ofW HT_.out HW_.out (by kernel_rfl)) (fun _ _ _ h => h) (Or.inl ⟨by rfl, ?_⟩) hHeld ?_ ?_
           rotate_left
           ·
            rintro w' ⟨s0, s1, s2, s3, s4, s5, s6, s7, s8, s9, s10, s11, s12, s13⟩
            go_simp
            with_reducible rfl
           rotate_left
           ·
            simp only [Act.put, List.setIfInBounds_toArray, List.set_cons_zero, List.set_cons_succ, i64_w, i32_w]
            rfl
           refine pure_ (i := 7) (N := some 72) (v := ?_) (a' := ?_) #[true, true, true, true, true, true, true, true, false, true, false, false, false, false, false, false, false] rfl rfl (any_of HT_.out (by kernel_rfl)) (fun _ _ _ h => h) (Or.inl ⟨by rfl, ?_⟩) ?_ ?_
           rotate_left
           ·
            intro w'
            go_simp
            with_reducible rfl
           rotate_left
           ·
            simp only [Act.put, List.setIfInBounds_toArray, List.set_cons_zero, List.set_cons_succ, i64_w, i32_w]
            rfl
           refine pure_ (i := 8) (N := some 73) (v := ?_) (a' := ?_) #[true, true, true, true, true, true, true, true, true, true, false, false, false, false, false, false, false] rfl rfl (any_of HT_.out (by kernel_rfl)) (fun _ _ _ h => h) (Or.inl ⟨by rfl, ?_⟩) ?_ ?_
           rotate_left
           ·
            intro w'
            go_simp
            with_reducible rfl
           rotate_left
           ·
            simp only [Act.put, List.setIfInBounds_toArray, List.set_cons_zero, List.set_cons_succ, i64_w, i32_w]
            rfl
           refine take_ (i := 10) (N := some 75) (v := ?_) (a' := ?_) #[true, true, true, true, true, true, true, true, true, true, true, false, false, false, false, false, false] rfl rfl (take_ofW HT_.out HW_.out (by kernel_rfl)) (fun _ _ _ h => h) (Or.inl ⟨by rfl, ?_⟩) hHeld ?_ ?_
           rotate_left
           ·
            rintro w' ⟨s0, s1, s2, s3, s4, s5, s6, s7, s8, s9, s10, s11, s12, s13⟩
            go_simp
            with_reducible rfl
           rotate_left
           ·
            simp only [Act.put, List.setIfInBounds_toArray, List.set_cons_zero, List.set_cons_succ, i64_w, i32_w]
            rfl
           refine one_ (i := 11) (N := some 76) #[true, true, true, true, true, true, true, true, true, true, true, true, false, false, false, false, false] rfl rfl (one_of HT_.out (by kernel_rfl)) (by decide) (fun K hK => ?_)
           refine goes_ Try.func19 (by kernel_rfl) rfl #[.agg #[.slice Ao31 x270000_1.length co31, .bool x270001_1, .bool x270002_1, .int .i64 x270003_1], .int .i64 (Int.tmod (wrap64 ((rd_T37 l0 x8_1).f1)) 4), .int .i64 (Int.tmod (wrap64 ((rd_T37 l0 x8_1).f2)) 5), .agg #[.bool false, .string (⟨#[]⟩ : ByteArray), .string (⟨#[]⟩ : ByteArray)], .agg #[.int .i64 t272, .string t273, .string t274, .int .i64 t275]] (by rfl) rfl rfl (by (try simp only [List.map_toArray, List.map_cons, List.map_nil]); first | done | rfl | (simp only [List.length_drop, List.length_take]; rfl)) ?_
           with_reducible refine (nand_Program.calls (fun k_ => (k_ ≠ gb269 ∧ (k_ ≠ gb276 ∧ k_ ≠ gb284))) _ _ x270000_1 x270001_1 x270002_1 x270003_1 (Int.tmod (wrap64 ((rd_T37 l0 x8_1).f1)) 4) (Int.tmod (wrap64 ((rd_T37 l0 x8_1).f2)) 5) false (⟨#[]⟩ : ByteArray) (⟨#[]⟩ : ByteArray) t272 t273 t274 t275 t287 t290 t291 t292 t293 _ ?side1 A39.out).mono ?_
           (case side1 => exact HO_270000.out)
           rintro e w42 ⟨v288, rfl, ho0, hb⟩
           refine ⟨_, rfl, ?_⟩
           have n0_ := Aside0.mk (Kd.V_below (by (with_reducible repeat (first | apply Kd.V_alloc | apply Kd.V_drewN | apply Kd.V_drew)); exact HO_270000.out) hb)
           have n1_ := Aside0.mk (Kd.V_below (by (with_reducible repeat (first | apply Kd.V_alloc | apply Kd.V_drewN | apply Kd.V_drew)); exact HO279.out) hb)
           have n2_ := Aside0.mk (Kd.V_lower (Kd.V_mono (ok' := fun k_ => k_ ≠ gb269 ∧ k_ ≠ gb276 ∧ k_ ≠ gb284) ho0 (fun k_ hk_ => ⟨Or.elim hk_ (fun hs_ => hs_.1) (fun hn_ => (Kd.freshB (g := gb269) (o := .cells #[.slice Ao31 x270000_1.length co31, .bool x270001_1, .bool x270002_1, .int .i64 x270003_1] 27 (0, 0)) (by (with_reducible repeat (first | apply blk_drewN | apply blk_drew | apply blk_alloc)); exact BK269.out) k_ hn_)), Or.elim hk_ (fun hs_ => hs_.2.1) (fun hn_ => (Kd.freshB (g := gb276) (o := .cells #[.int .i64 t272, .string t273, .string t274, .int .i64 t275] 41 (0, 0)) (by (with_reducible repeat (first | apply blk_drewN | apply blk_drew | apply blk_alloc)); exact BK276.out) k_ hn_)), Or.elim hk_ (fun hs_ => hs_.2.2) (fun hn_ => (Kd.freshB (g := gb284) (o := .cells #[.slice Ao34 t277.length co34, .bool t280, .bool t281, .int .i64 t282] 27 (0, 0)) (by (with_reducible repeat (first | apply blk_drewN | apply blk_drew | apply blk_alloc)); exact BK284.out) k_ hn_))⟩)) (below_size (by repeat (first | (with_reducible first | exact HB.out | apply below_alloc | apply pw_below_drewN | apply below_drew1 | refine below_set ?_ GE269.out | refine below_set ?_ GE276.out | refine below_set ?_ GE284.out) | exact HB.out))))
           have n3_ := Aside0.mk (blk_below (g := gb269) (o := .cells #[.slice Ao31 x270000_1.length co31, .bool x270001_1, .bool x270002_1, .int .i64 x270003_1] 27 (0, 0)) (by (with_reducible repeat (first | apply blk_drewN | apply blk_drew | apply blk_alloc)); exact BK269.out) hb)
           have n4_ := Aside0.mk (blk_below (g := gb276) (o := .cells #[.int .i64 t272, .string t273, .string t274, .int .i64 t275] 41 (0, 0)) (by (with_reducible repeat (first | apply blk_drewN | apply blk_drew | apply blk_alloc)); exact BK276.out) hb)
           have n5_ := Aside0.mk (blk_below (g := gb284) (o := .cells #[.slice Ao34 t277.length co34, .bool t280, .bool t281, .int .i64 t282] 27 (0, 0)) (by (with_reducible repeat (first | apply blk_drewN | apply blk_drew | apply blk_alloc)); exact BK284.out) hb)
           have n6_ := Aside0.mk (below_step (by repeat (first | (with_reducible first | exact HB.out | apply below_alloc | apply pw_below_drewN | apply below_drew1 | refine below_set ?_ GE269.out | refine below_set ?_ GE276.out | refine below_set ?_ GE284.out) | exact HB.out)) hb)
           clear HO_270000
           clear HO279
           clear BK269
           clear BK276
           clear BK284
           clear HB
           have HO_270000 := n0_
           have HO279 := n1_
           have HO289 := n2_
           have BK269 := n3_
           have BK276 := n4_
           have BK284 := n5_
           have HB := n6_
           clear n0_ n1_ n2_ n3_ n4_ n5_ n6_
           (try clear hb)
           (try clear hb2)
           (try clear hk)
           (try clear hi)
           (try clear ho0)
           obtain ⟨Ao43, co43, eo43⟩ := Kd.V_slice HO289.out
           (first | subst eo43 | (injection eo43 with f1_ f2_ f3_; have f4_ := f1_.symm; have f5_ := f3_.symm; clear f1_ f2_ f3_; subst f4_; subst f5_))
           refine hK.out _ _ ⟨(blk_cell BK269.out 0).trans rfl, (blk_cell BK269.out 1).trans rfl, (blk_cell BK269.out 2).trans rfl, (blk_cell BK269.out 3).trans rfl, (blk_cell BK276.out 0).trans rfl, (blk_cell BK276.out 1).trans rfl, (blk_cell BK276.out 2).trans rfl, (blk_cell BK276.out 3).trans rfl, ((HB.out.cell (World.block_lt_of_cell? w _ hw286_0)).trans hw286_0), ((HB.out.cell (World.block_lt_of_cell? w _ hw286_1)).trans hw286_1), ((HB.out.cell (World.block_lt_of_cell? w _ hw286_2)).trans hw286_2), ((HB.out.cell (World.block_lt_of_cell? w _ hw286_3)).trans hw286_3), ((HB.out.cell (World.block_lt_of_cell? w _ hw286_4)).trans hw286_4), ((HB.out.cell (World.block_lt_of_cell? w _ hw286_5)).trans hw286_5)⟩ (fun hHeld => ?_)
           clear hK K
           refine norm_ (a' := ?_) ?_ ?_
           rotate_left
           ·
            show Act.put _ (some 76) _ = _
            simp only [Act.put, List.setIfInBounds_toArray, List.set_cons_zero, List.set_cons_succ, i64_w, i32_w]
            rfl
           refine pure_ (i := 12) (N := some 64) (v := ?_) (a' := ?_) #[true, true, true, true, true, true, true, true, true, true, true, true, true, false, false, false, false] rfl rfl (any_of HT_.out (by kernel_rfl)) (fun _ _ _ h => h) (Or.inl ⟨by rfl, ?_⟩) ?_ ?_
           rotate_left
           ·
            intro w'
            go_simp
            with_reducible rfl
           rotate_left
           ·
            simp only [Act.put, List.setIfInBounds_toArray, List.set_cons_zero, List.set_cons_succ, i64_w, i32_w]
            rfl
           refine pure_ (i := 13) (N := some 77) (v := ?_) (a' := ?_) #[true, true, true, true, true, true, true, true, true, true, true, true, true, true, false, false, false] rfl rfl (any_of HT_.out (by kernel_rfl)) (fun _ _ _ h => h) (Or.inl ⟨by rfl, ?_⟩) ?_ ?_
           rotate_left
           ·
            intro w'
            go_simp
            with_reducible rfl
           rotate_left
           ·
            simp only [Act.put, List.setIfInBounds_toArray, List.set_cons_zero, List.set_cons_succ, i64_w, i32_w]
            rfl
           refine pure_ (i := 14) (N := some 78) (v := ?_) (a' := ?_) #[true, true, true, true, true, true, true, true, true, true, true, true, true, true, true, false, false] rfl rfl (any_of HT_.out (by kernel_rfl)) (fun _ _ _ h => h) (Or.inl ⟨by rfl, ?_⟩) ?_ ?_
           rotate_left
           ·
            intro w'
            go_simp
            with_reducible rfl
           rotate_left
           ·
            simp only [Act.put, List.setIfInBounds_toArray, List.set_cons_zero, List.set_cons_succ, i64_w, i32_w]
            rfl
           refine one_ (i := 15) (N := none) #[true, true, true, true, true, true, true, true, true, true, true, true, true, true, true, true, false] rfl rfl (one_of HT_.out (by kernel_rfl)) (by decide) (fun K hK => ?_)
           have hs44 : w42.cell? ⟨gb284, 0, none⟩ = some (.slice Ao34 t277.length co34) := (blk_cell BK284.out 0).trans rfl
           have hfs44 := blk_frozen BK284.out 0
           have hns44_0 := NB269_284.out
           have hns44_1 := NB276_284.out
           have hms44_0 := NB284_269.out
           have hms44_1 := NB284_276.out
           have hs45 : w42.cell? ⟨gb284, 1, none⟩ = some (.bool t280) := (blk_cell BK284.out 1).trans rfl
           have hfs45 := blk_frozen BK284.out 1
           have hns45_0 := NB269_284.out
           have hns45_1 := NB276_284.out
           have hms45_0 := NB284_269.out
           have hms45_1 := NB284_276.out
           have hs46 : w42.cell? ⟨gb284, 2, none⟩ = some (.bool t281) := (blk_cell BK284.out 2).trans rfl
           have hfs46 := blk_frozen BK284.out 2
           have hns46_0 := NB269_284.out
           have hns46_1 := NB276_284.out
           have hms46_0 := NB284_269.out
           have hms46_1 := NB284_276.out
           have hs47 : w42.cell? ⟨gb284, 3, none⟩ = some (.int .i64 t282) := (blk_cell BK284.out 3).trans rfl
           have hfs47 := blk_frozen BK284.out 3
           have hns47_0 := NB269_284.out
           have hns47_1 := NB276_284.out
           have hms47_0 := NB284_269.out
           have hms47_1 := NB284_276.out
           refine skip_ (w1 := ?_) (by rfl) rfl ?_ ?_
           rotate_left
           ·
            go_simp
            rfl
           refine hK.out _ _ ⟨((cell_far (p := ⟨gb284, _, none⟩) NB269_284.out _).trans (((cell_far (p := ⟨gb284, _, none⟩) NB269_284.out _).trans (((cell_far (p := ⟨gb284, _, none⟩) NB269_284.out _).trans (((cell_far (p := ⟨gb284, _, none⟩) NB269_284.out _).trans (hHeld.1)))))))), ((cell_far (p := ⟨gb284, _, none⟩) NB269_284.out _).trans (((cell_far (p := ⟨gb284, _, none⟩) NB269_284.out _).trans (((cell_far (p := ⟨gb284, _, none⟩) NB269_284.out _).trans (((cell_far (p := ⟨gb284, _, none⟩) NB269_284.out _).trans (hHeld.2.1)))))))), ((cell_far (p := ⟨gb284, _, none⟩) NB269_284.out _).trans (((cell_far (p := ⟨gb284, _, none⟩) NB269_284.out _).trans (((cell_far (p := ⟨gb284, _, none⟩) NB269_284.out _).trans (((cell_far (p := ⟨gb284, _, none⟩) NB269_284.out _).trans (hHeld.2.2.1)))))))), ((cell_far (p := ⟨gb284, _, none⟩) NB269_284.out _).trans (((cell_far (p := ⟨gb284, _, none⟩) NB269_284.out _).trans (((cell_far (p := ⟨gb284, _, none⟩) NB269_284.out _).trans (((cell_far (p := ⟨gb284, _, none⟩) NB269_284.out _).trans (hHeld.2.2.2.1)))))))), ((cell_far (p := ⟨gb284, _, none⟩) NB276_284.out _).trans (((cell_far (p := ⟨gb284, _, none⟩) NB276_284.out _).trans (((cell_far (p := ⟨gb284, _, none⟩) NB276_284.out _).trans (((cell_far (p := ⟨gb284, _, none⟩) NB276_284.out _).trans (hHeld.2.2.2.2.1)))))))), ((cell_far (p := ⟨gb284, _, none⟩) NB276_284.out _).trans (((cell_far (p := ⟨gb284, _, none⟩) NB276_284.out _).trans (((cell_far (p := ⟨gb284, _, none⟩) NB276_284.out _).trans (((cell_far (p := ⟨gb284, _, none⟩) NB276_284.out _).trans (hHeld.2.2.2.2.2.1)))))))), ((cell_far (p := ⟨gb284, _, none⟩) NB276_284.out _).trans (((cell_far (p := ⟨gb284, _, none⟩) NB276_284.out _).trans (((cell_far (p := ⟨gb284, _, none⟩) NB276_284.out _).trans (((cell_far (p := ⟨gb284, _, none⟩) NB276_284.out _).trans (hHeld.2.2.2.2.2.2.1)))))))), ((cell_far (p := ⟨gb284, _, none⟩) NB276_284.out _).trans (((cell_far (p := ⟨gb284, _, none⟩) NB276_284.out _).trans (((cell_far (p := ⟨gb284, _, none⟩) NB276_284.out _).trans (((cell_far (p := ⟨gb284, _, none⟩) NB276_284.out _).trans (hHeld.2.2.2.2.2.2.2.1)))))))), ((cell_far (p := ⟨gb284, _, none⟩) (by first | exact Nat.ne_of_lt (Nat.lt_of_lt_of_le (by have := World.block_lt_of_cell? _ _ hw286_0; first | rwa [add_block] at this | exact this) GW284.out) | (rw [add_block]; exact Nat.ne_of_lt (Nat.lt_of_lt_of_le (by have := World.block_lt_of_cell? _ _ hw286_0; first | rwa [add_block] at this | exact this) GW284.out)) | (show (Addr.add _ _).block ≠ _; rw [add_block]; exact Nat.ne_of_lt (Nat.lt_of_lt_of_le (by have := World.block_lt_of_cell? _ _ hw286_0; first | rwa [add_block] at this | exact this) GW284.out)) | (dsimp only; exact Nat.ne_of_lt (Nat.lt_of_lt_of_le (by have := World.block_lt_of_cell? _ _ hw286_0; first | rwa [add_block] at this | exact this) GW284.out))) _).trans (((cell_far (p := ⟨gb284, _, none⟩) (by first | exact Nat.ne_of_lt (Nat.lt_of_lt_of_le (by have := World.block_lt_of_cell? _ _ hw286_0; first | rwa [add_block] at this | exact this) GW284.out) | (rw [add_block]; exact Nat.ne_of_lt (Nat.lt_of_lt_of_le (by have := World.block_lt_of_cell? _ _ hw286_0; first | rwa [add_block] at this | exact this) GW284.out)) | (show (Addr.add _ _).block ≠ _; rw [add_block]; exact Nat.ne_of_lt (Nat.lt_of_lt_of_le (by have := World.block_lt_of_cell? _ _ hw286_0; first | rwa [add_block] at this | exact this) GW284.out)) | (dsimp only; exact Nat.ne_of_lt (Nat.lt_of_lt_of_le (by have := World.block_lt_of_cell? _ _ hw286_0; first | rwa [add_block] at this | exact this) GW284.out))) _).trans (((cell_far (p := ⟨gb284, _, none⟩) (by first | exact Nat.ne_of_lt (Nat.lt_of_lt_of_le (by have := World.block_lt_of_cell? _ _ hw286_0; first | rwa [add_block] at this | exact this) GW284.out) | (rw [add_block]; exact Nat.ne_of_lt (Nat.lt_of_lt_of_le (by have := World.block_lt_of_cell? _ _ hw286_0; first | rwa [add_block] at this | exact this) GW284.out)) | (show (Addr.add _ _).block ≠ _; rw [add_block]; exact Nat.ne_of_lt (Nat.lt_of_lt_of_le (by have := World.block_lt_of_cell? _ _ hw286_0; first | rwa [add_block] at this | exact this) GW284.out)) | (dsimp only; exact Nat.ne_of_lt (Nat.lt_of_lt_of_le (by have := World.block_lt_of_cell? _ _ hw286_0; first | rwa [add_block] at this | exact this) GW284.out))) _).trans (((cell_far (p := ⟨gb284, _, none⟩) (by first | exact Nat.ne_of_lt (Nat.lt_of_lt_of_le (by have := World.block_lt_of_cell? _ _ hw286_0; first | rwa [add_block] at this | exact this) GW284.out) | (rw [add_block]; exact Nat.ne_of_lt (Nat.lt_of_lt_of_le (by have := World.block_lt_of_cell? _ _ hw286_0; first | rwa [add_block] at this | exact this) GW284.out)) | (show (Addr.add _ _).block ≠ _; rw [add_block]; exact Nat.ne_of_lt (Nat.lt_of_lt_of_le (by have := World.block_lt_of_cell? _ _ hw286_0; first | rwa [add_block] at this | exact this) GW284.out)) | (dsimp only; exact Nat.ne_of_lt (Nat.lt_of_lt_of_le (by have := World.block_lt_of_cell? _ _ hw286_0; first | rwa [add_block] at this | exact this) GW284.out))) _).trans (hHeld.2.2.2.2.2.2.2.2.1)))))))), ((cell_far (p := ⟨gb284, _, none⟩) (by first | exact Nat.ne_of_lt (Nat.lt_of_lt_of_le (by have := World.block_lt_of_cell? _ _ hw286_1; first | rwa [add_block] at this | exact this) GW284.out) | (rw [add_block]; exact Nat.ne_of_lt (Nat.lt_of_lt_of_le (by have := World.block_lt_of_cell? _ _ hw286_1; first | rwa [add_block] at this | exact this) GW284.out)) | (show (Addr.add _ _).block ≠ _; rw [add_block]; exact Nat.ne_of_lt (Nat.lt_of_lt_of_le (by have := World.block_lt_of_cell? _ _ hw286_1; first | rwa [add_block] at this | exact this) GW284.out)) | (dsimp only; exact Nat.ne_of_lt (Nat.lt_of_lt_of_le (by have := World.block_lt_of_cell? _ _ hw286_1; first | rwa [add_block] at this | exact this) GW284.out))) _).trans (((cell_far (p := ⟨gb284, _, none⟩) (by first | exact Nat.ne_of_lt (Nat.lt_of_lt_of_le (by have := World.block_lt_of_cell? _ _ hw286_1; first | rwa [add_block] at this | exact this) GW284.out) | (rw [add_block]; exact Nat.ne_of_lt (Nat.lt_of_lt_of_le (by have := World.block_lt_of_cell? _ _ hw286_1; first | rwa [add_block] at this | exact this) GW284.out)) | (show (Addr.add _ _).block ≠ _; rw [add_block]; exact Nat.ne_of_lt (Nat.lt_of_lt_of_le (by have := World.block_lt_of_cell? _ _ hw286_1; first | rwa [add_block] at this | exact this) GW284.out)) | (dsimp only; exact Nat.ne_of_lt (Nat.lt_of_lt_of_le (by have := World.block_lt_of_cell? _ _ hw286_1; first | rwa [add_block] at this | exact this) GW284.out))) _).trans (((cell_far (p := ⟨gb284, _, none⟩) (by first | exact Nat.ne_of_lt (Nat.lt_of_lt_of_le (by have := World.block_lt_of_cell? _ _ hw286_1; first | rwa [add_block] at this | exact this) GW284.out) | (rw [add_block]; exact Nat.ne_of_lt (Nat.lt_of_lt_of_le (by have := World.block_lt_of_cell? _ _ hw286_1; first | rwa [add_block] at this | exact this) GW284.out)) | (show (Addr.add _ _).block ≠ _; rw [add_block]; exact Nat.ne_of_lt (Nat.lt_of_lt_of_le (by have := World.block_lt_of_cell? _ _ hw286_1; first | rwa [add_block] at this | exact this) GW284.out)) | (dsimp only; exact Nat.ne_of_lt (Nat.lt_of_lt_of_le (by have := World.block_lt_of_cell? _ _ hw286_1; first | rwa [add_block] at this | exact this) GW284.out))) _).trans (((cell_far (p := ⟨gb284, _, none⟩) (by first | exact Nat.ne_of_lt (Nat.lt_of_lt_of_le (by have := World.block_lt_of_cell? _ _ hw286_1; first | rwa [add_block] at this | exact this) GW284.out) | (rw [add_block]; exact Nat.ne_of_lt (Nat.lt_of_lt_of_le (by have := World.block_lt_of_cell? _ _ hw286_1; first | rwa [add_block] at this | exact this) GW284.out)) | (show (Addr.add _ _).block ≠ _; rw [add_block]; exact Nat.ne_of_lt (Nat.lt_of_lt_of_le (by have := World.block_lt_of_cell? _ _ hw286_1; first | rwa [add_block] at this | exact this) GW284.out)) | (dsimp only; exact Nat.ne_of_lt (Nat.lt_of_lt_of_le (by have := World.block_lt_of_cell? _ _ hw286_1; first | rwa [add_block] at this | exact this) GW284.out))) _).trans (hHeld.2.2.2.2.2.2.2.2.2.1)))))))), ((cell_far (p := ⟨gb284, _, none⟩) (by first | exact Nat.ne_of_lt (Nat.lt_of_lt_of_le (by have := World.block_lt_of_cell? _ _ hw286_2; first | rwa [add_block] at this | exact this) GW284.out) | (rw [add_block]; exact Nat.ne_of_lt (Nat.lt_of_lt_of_le (by have := World.block_lt_of_cell? _ _ hw286_2; first | rwa [add_block] at this | exact this) GW284.out)) | (show (Addr.add _ _).block ≠ _; rw [add_block]; exact Nat.ne_of_lt (Nat.lt_of_lt_of_le (by have := World.block_lt_of_cell? _ _ hw286_2; first | rwa [add_block] at this | exact this) GW284.out)) | (dsimp only; exact Nat.ne_of_lt (Nat.lt_of_lt_of_le (by have := World.block_lt_of_cell? _ _ hw286_2; first | rwa [add_block] at this | exact this) GW284.out))) _).trans (((cell_far (p := ⟨gb284, _, none⟩) (by first | exact Nat.ne_of_lt (Nat.lt_of_lt_of_le (by have := World.block_lt_of_cell? _ _ hw286_2; first | rwa [add_block] at this | exact this) GW284.out) | (rw [add_block]; exact Nat.ne_of_lt (Nat.lt_of_lt_of_le (by have := World.block_lt_of_cell? _ _ hw286_2; first | rwa [add_block] at this | exact this) GW284.out)) | (show (Addr.add _ _).block ≠ _; rw [add_block]; exact Nat.ne_of_lt (Nat.lt_of_lt_of_le (by have := World.block_lt_of_cell? _ _ hw286_2; first | rwa [add_block] at this | exact this) GW284.out)) | (dsimp only; exact Nat.ne_of_lt (Nat.lt_of_lt_of_le (by have := World.block_lt_of_cell? _ _ hw286_2; first | rwa [add_block] at this | exact this) GW284.out))) _).trans (((cell_far (p := ⟨gb284, _, none⟩) (by first | exact Nat.ne_of_lt (Nat.lt_of_lt_of_le (by have := World.block_lt_of_cell? _ _ hw286_2; first | rwa [add_block] at this | exact this) GW284.out) | (rw [add_block]; exact Nat.ne_of_lt (Nat.lt_of_lt_of_le (by have := World.block_lt_of_cell? _ _ hw286_2; first | rwa [add_block] at this | exact this) GW284.out)) | (show (Addr.add _ _).block ≠ _; rw [add_block]; exact Nat.ne_of_lt (Nat.lt_of_lt_of_le (by have := World.block_lt_of_cell? _ _ hw286_2; first | rwa [add_block] at this | exact this) GW284.out)) | (dsimp only; exact Nat.ne_of_lt (Nat.lt_of_lt_of_le (by have := World.block_lt_of_cell? _ _ hw286_2; first | rwa [add_block] at this | exact this) GW284.out))) _).trans (((cell_far (p := ⟨gb284, _, none⟩) (by first | exact Nat.ne_of_lt (Nat.lt_of_lt_of_le (by have := World.block_lt_of_cell? _ _ hw286_2; first | rwa [add_block] at this | exact this) GW284.out) | (rw [add_block]; exact Nat.ne_of_lt (Nat.lt_of_lt_of_le (by have := World.block_lt_of_cell? _ _ hw286_2; first | rwa [add_block] at this | exact this) GW284.out)) | (show (Addr.add _ _).block ≠ _; rw [add_block]; exact Nat.ne_of_lt (Nat.lt_of_lt_of_le (by have := World.block_lt_of_cell? _ _ hw286_2; first | rwa [add_block] at this | exact this) GW284.out)) | (dsimp only; exact Nat.ne_of_lt (Nat.lt_of_lt_of_le (by have := World.block_lt_of_cell? _ _ hw286_2; first | rwa [add_block] at this | exact this) GW284.out))) _).trans (hHeld.2.2.2.2.2.2.2.2.2.2.1)))))))), ((cell_far (p := ⟨gb284, _, none⟩) (by first | exact Nat.ne_of_lt (Nat.lt_of_lt_of_le (by have := World.block_lt_of_cell? _ _ hw286_3; first | rwa [add_block] at this | exact this) GW284.out) | (rw [add_block]; exact Nat.ne_of_lt (Nat.lt_of_lt_of_le (by have := World.block_lt_of_cell? _ _ hw286_3; first | rwa [add_block] at this | exact this) GW284.out)) | (show (Addr.add _ _).block ≠ _; rw [add_block]; exact Nat.ne_of_lt (Nat.lt_of_lt_of_le (by have := World.block_lt_of_cell? _ _ hw286_3; first | rwa [add_block] at this | exact this) GW284.out)) | (dsimp only; exact Nat.ne_of_lt (Nat.lt_of_lt_of_le (by have := World.block_lt_of_cell? _ _ hw286_3; first | rwa [add_block] at this | exact this) GW284.out))) _).trans (((cell_far (p := ⟨gb284, _, none⟩) (by first | exact Nat.ne_of_lt (Nat.lt_of_lt_of_le (by have := World.block_lt_of_cell? _ _ hw286_3; first | rwa [add_block] at this | exact this) GW284.out) | (rw [add_block]; exact Nat.ne_of_lt (Nat.lt_of_lt_of_le (by have := World.block_lt_of_cell? _ _ hw286_3; first | rwa [add_block] at this | exact this) GW284.out)) | (show (Addr.add _ _).block ≠ _; rw [add_block]; exact Nat.ne_of_lt (Nat.lt_of_lt_of_le (by have := World.block_lt_of_cell? _ _ hw286_3; first | rwa [add_block] at this | exact this) GW284.out)) | (dsimp only; exact Nat.ne_of_lt (Nat.lt_of_lt_of_le (by have := World.block_lt_of_cell? _ _ hw286_3; first | rwa [add_block] at this | exact this) GW284.out))) _).trans (((cell_far (p := ⟨gb284, _, none⟩) (by first | exact Nat.ne_of_lt (Nat.lt_of_lt_of_le (by have := World.block_lt_of_cell? _ _ hw286_3; first | rwa [add_block] at this | exact this) GW284.out) | (rw [add_block]; exact Nat.ne_of_lt (Nat.lt_of_lt_of_le (by have := World.block_lt_of_cell? _ _ hw286_3; first | rwa [add_block] at this | exact this) GW284.out)) | (show (Addr.add _ _).block ≠ _; rw [add_block]; exact Nat.ne_of_lt (Nat.lt_of_lt_of_le (by have := World.block_lt_of_cell? _ _ hw286_3; first | rwa [add_block] at this | exact this) GW284.out)) | (dsimp only; exact Nat.ne_of_lt (Nat.lt_of_lt_of_le (by have := World.block_lt_of_cell? _ _ hw286_3; first | rwa [add_block] at this | exact this) GW284.out))) _).trans (((cell_far (p := ⟨gb284, _, none⟩) (by first | exact Nat.ne_of_lt (Nat.lt_of_lt_of_le (by have := World.block_lt_of_cell? _ _ hw286_3; first | rwa [add_block] at this | exact this) GW284.out) | (rw [add_block]; exact Nat.ne_of_lt (Nat.lt_of_lt_of_le (by have := World.block_lt_of_cell? _ _ hw286_3; first | rwa [add_block] at this | exact this) GW284.out)) | (show (Addr.add _ _).block ≠ _; rw [add_block]; exact Nat.ne_of_lt (Nat.lt_of_lt_of_le (by have := World.block_lt_of_cell? _ _ hw286_3; first | rwa [add_block] at this | exact this) GW284.out)) | (dsimp only; exact Nat.ne_of_lt (Nat.lt_of_lt_of_le (by have := World.block_lt_of_cell? _ _ hw286_3; first | rwa [add_block] at this | exact this) GW284.out))) _).trans (hHeld.2.2.2.2.2.2.2.2.2.2.2.1)))))))), ((cell_far (p := ⟨gb284, _, none⟩) (by first | exact Nat.ne_of_lt (Nat.lt_of_lt_of_le (by have := World.block_lt_of_cell? _ _ hw286_4; first | rwa [add_block] at this | exact this) GW284.out) | (rw [add_block]; exact Nat.ne_of_lt (Nat.lt_of_lt_of_le (by have := World.block_lt_of_cell? _ _ hw286_4; first | rwa [add_block] at this | exact this) GW284.out)) | (show (Addr.add _ _).block ≠ _; rw [add_block]; exact Nat.ne_of_lt (Nat.lt_of_lt_of_le (by have := World.block_lt_of_cell? _ _ hw286_4; first | rwa [add_block] at this | exact this) GW284.out)) | (dsimp only; exact Nat.ne_of_lt (Nat.lt_of_lt_of_le (by have := World.block_lt_of_cell? _ _ hw286_4; first | rwa [add_block] at this | exact this) GW284.out))) _).trans (((cell_far (p := ⟨gb284, _, none⟩) (by first | exact Nat.ne_of_lt (Nat.lt_of_lt_of_le (by have := World.block_lt_of_cell? _ _ hw286_4; first | rwa [add_block] at this | exact this) GW284.out) | (rw [add_block]; exact Nat.ne_of_lt (Nat.lt_of_lt_of_le (by have := World.block_lt_of_cell? _ _ hw286_4; first | rwa [add_block] at this | exact this) GW284.out)) | (show (Addr.add _ _).block ≠ _; rw [add_block]; exact Nat.ne_of_lt (Nat.lt_of_lt_of_le (by have := World.block_lt_of_cell? _ _ hw286_4; first | rwa [add_block] at this | exact this) GW284.out)) | (dsimp only; exact Nat.ne_of_lt (Nat.lt_of_lt_of_le (by have := World.block_lt_of_cell? _ _ hw286_4; first | rwa [add_block] at this | exact this) GW284.out))) _).trans (((cell_far (p := ⟨gb284, _, none⟩) (by first | exact Nat.ne_of_lt (Nat.lt_of_lt_of_le (by have := World.block_lt_of_cell? _ _ hw286_4; first | rwa [add_block] at this | exact this) GW284.out) | (rw [add_block]; exact Nat.ne_of_lt (Nat.lt_of_lt_of_le (by have := World.block_lt_of_cell? _ _ hw286_4; first | rwa [add_block] at this | exact this) GW284.out)) | (show (Addr.add _ _).block ≠ _; rw [add_block]; exact Nat.ne_of_lt (Nat.lt_of_lt_of_le (by have := World.block_lt_of_cell? _ _ hw286_4; first | rwa [add_block] at this | exact this) GW284.out)) | (dsimp only; exact Nat.ne_of_lt (Nat.lt_of_lt_of_le (by have := World.block_lt_of_cell? _ _ hw286_4; first | rwa [add_block] at this | exact this) GW284.out))) _).trans (((cell_far (p := ⟨gb284, _, none⟩) (by first | exact Nat.ne_of_lt (Nat.lt_of_lt_of_le (by have := World.block_lt_of_cell? _ _ hw286_4; first | rwa [add_block] at this | exact this) GW284.out) | (rw [add_block]; exact Nat.ne_of_lt (Nat.lt_of_lt_of_le (by have := World.block_lt_of_cell? _ _ hw286_4; first | rwa [add_block] at this | exact this) GW284.out)) | (show (Addr.add _ _).block ≠ _; rw [add_block]; exact Nat.ne_of_lt (Nat.lt_of_lt_of_le (by have := World.block_lt_of_cell? _ _ hw286_4; first | rwa [add_block] at this | exact this) GW284.out)) | (dsimp only; exact Nat.ne_of_lt (Nat.lt_of_lt_of_le (by have := World.block_lt_of_cell? _ _ hw286_4; first | rwa [add_block] at this | exact this) GW284.out))) _).trans (hHeld.2.2.2.2.2.2.2.2.2.2.2.2.1)))))))), ((cell_far (p := ⟨gb284, _, none⟩) (by first | exact Nat.ne_of_lt (Nat.lt_of_lt_of_le (by have := World.block_lt_of_cell? _ _ hw286_5; first | rwa [add_block] at this | exact this) GW284.out) | (rw [add_block]; exact Nat.ne_of_lt (Nat.lt_of_lt_of_le (by have := World.block_lt_of_cell? _ _ hw286_5; first | rwa [add_block] at this | exact this) GW284.out)) | (show (Addr.add _ _).block ≠ _; rw [add_block]; exact Nat.ne_of_lt (Nat.lt_of_lt_of_le (by have := World.block_lt_of_cell? _ _ hw286_5; first | rwa [add_block] at this | exact this) GW284.out)) | (dsimp only; exact Nat.ne_of_lt (Nat.lt_of_lt_of_le (by have := World.block_lt_of_cell? _ _ hw286_5; first | rwa [add_block] at this | exact this) GW284.out))) _).trans (((cell_far (p := ⟨gb284, _, none⟩) (by first | exact Nat.ne_of_lt (Nat.lt_of_lt_of_le (by have := World.block_lt_of_cell? _ _ hw286_5; first | rwa [add_block] at this | exact this) GW284.out) | (rw [add_block]; exact Nat.ne_of_lt (Nat.lt_of_lt_of_le (by have := World.block_lt_of_cell? _ _ hw286_5; first | rwa [add_block] at this | exact this) GW284.out)) | (show (Addr.add _ _).block ≠ _; rw [add_block]; exact Nat.ne_of_lt (Nat.lt_of_lt_of_le (by have := World.block_lt_of_cell? _ _ hw286_5; first | rwa [add_block] at this | exact this) GW284.out)) | (dsimp only; exact Nat.ne_of_lt (Nat.lt_of_lt_of_le (by have := World.block_lt_of_cell? _ _ hw286_5; first | rwa [add_block] at this | exact this) GW284.out))) _).trans (((cell_far (p := ⟨gb284, _, none⟩) (by first | exact Nat.ne_of_lt (Nat.lt_of_lt_of_le (by have := World.block_lt_of_cell? _ _ hw286_5; first | rwa [add_block] at this | exact this) GW284.out) | (rw [add_block]; exact Nat.ne_of_lt (Nat.lt_of_lt_of_le (by have := World.block_lt_of_cell? _ _ hw286_5; first | rwa [add_block] at this | exact this) GW284.out)) | (show (Addr.add _ _).block ≠ _; rw [add_block]; exact Nat.ne_of_lt (Nat.lt_of_lt_of_le (by have := World.block_lt_of_cell? _ _ hw286_5; first | rwa [add_block] at this | exact this) GW284.out)) | (dsimp only; exact Nat.ne_of_lt (Nat.lt_of_lt_of_le (by have := World.block_lt_of_cell? _ _ hw286_5; first | rwa [add_block] at this | exact this) GW284.out))) _).trans (((cell_far (p := ⟨gb284, _, none⟩) (by first | exact Nat.ne_of_lt (Nat.lt_of_lt_of_le (by have := World.block_lt_of_cell? _ _ hw286_5; first | rwa [add_block] at this | exact this) GW284.out) | (rw [add_block]; exact Nat.ne_of_lt (Nat.lt_of_lt_of_le (by have := World.block_lt_of_cell? _ _ hw286_5; first | rwa [add_block] at this | exact this) GW284.out)) | (show (Addr.add _ _).block ≠ _; rw [add_block]; exact Nat.ne_of_lt (Nat.lt_of_lt_of_le (by have := World.block_lt_of_cell? _ _ hw286_5; first | rwa [add_block] at this | exact this) GW284.out)) | (dsimp only; exact Nat.ne_of_lt (Nat.lt_of_lt_of_le (by have := World.block_lt_of_cell? _ _ hw286_5; first | rwa [add_block] at this | exact this) GW284.out))) _).trans (hHeld.2.2.2.2.2.2.2.2.2.2.2.2.2))))))))⟩ (fun hHeld => ?_)
           clear hK K
           refine pure_ (i := 16) (N := some 12) (v := ?_) (a' := ?_) #[true, true, true, true, true, true, true, true, true, true, true, true, true, true, true, true, true] rfl rfl (any_of HT_.out (by kernel_rfl)) (fun _ _ _ h => h) (Or.inl ⟨by rfl, ?_⟩) ?_ ?_
           rotate_left
           ·
            intro w'
            go_simp
            with_reducible rfl
           rotate_left
           ·
            simp only [Act.put, List.setIfInBounds_toArray, List.set_cons_zero, List.set_cons_succ, i64_w, i32_w]
            rfl
           refine done_ (done_of HT_.out (by kernel_rfl)) ?_
           try go_wp2
           go_meet
           case rel => exact ⟨_, (t293), (t287), (t290), (t291), (t292), (.slice Ao43 t287.length co43), (by first | rfl | (simp; done) | (simp [*]; done)), H', ⟨by have := HK1.out; have := HJ10.out; first | omega | exact Nat.le_refl _⟩, ⟨by (with_reducible repeat (first | apply Kd.V_alloc | apply Kd.V_drewN | apply Kd.V_drew)); exact Kd.V_mono (Kd.V_far (p := ⟨gb284, 3, none⟩) (Kd.V_far (p := ⟨gb284, 2, none⟩) (Kd.V_far (p := ⟨gb284, 1, none⟩) (Kd.V_far (p := ⟨gb284, 0, none⟩) (Kd.V_mono HO_270000.out (fun k_ hk => (⟨hk, hk.2.2⟩ : _ ∧ k_ ≠ gb284))) (fun _ hk => hk.2) _) (fun _ hk => hk.2) (.bool t290)) (fun _ hk => hk.2) (.bool t291)) (fun _ hk => hk.2) _) (fun _ hk => ⟨hk.1.1, ⟨hk.1.2.1, hk.1.2.2⟩⟩)⟩, ⟨by (with_reducible repeat (first | apply Kd.V_alloc | apply Kd.V_drewN | apply Kd.V_drew)); exact Kd.V_mono (Kd.V_far (p := ⟨gb284, 3, none⟩) (Kd.V_far (p := ⟨gb284, 2, none⟩) (Kd.V_far (p := ⟨gb284, 1, none⟩) (Kd.V_far (p := ⟨gb284, 0, none⟩) (Kd.V_mono HO289.out (fun k_ hk => (⟨hk, hk.2.2⟩ : _ ∧ k_ ≠ gb284))) (fun _ hk => hk.2) _) (fun _ hk => hk.2) (.bool t290)) (fun _ hk => hk.2) (.bool t291)) (fun _ hk => hk.2) _) (fun _ hk => ⟨hk.1.1, ⟨hk.1.2.1, hk.1.2.2⟩⟩)⟩, ⟨by (with_reducible repeat (first | apply blk_drewN | apply blk_drew | apply blk_alloc)); refine blk_far ?_ NB269_284.out _; (with_reducible repeat (first | apply blk_drewN | apply blk_drew | apply blk_alloc)); refine blk_far ?_ NB269_284.out _; (with_reducible repeat (first | apply blk_drewN | apply blk_drew | apply blk_alloc)); refine blk_far ?_ NB269_284.out _; (with_reducible repeat (first | apply blk_drewN | apply blk_drew | apply blk_alloc)); refine blk_far ?_ NB269_284.out _; (with_reducible repeat (first | apply blk_drewN | apply blk_drew | apply blk_alloc)); exact BK269.out⟩, ⟨by (with_reducible repeat (first | apply blk_drewN | apply blk_drew | apply blk_alloc)); refine blk_far ?_ NB276_284.out _; (with_reducible repeat (first | apply blk_drewN | apply blk_drew | apply blk_alloc)); refine blk_far ?_ NB276_284.out _; (with_reducible repeat (first | apply blk_drewN | apply blk_drew | apply blk_alloc)); refine blk_far ?_ NB276_284.out _; (with_reducible repeat (first | apply blk_drewN | apply blk_drew | apply blk_alloc)); refine blk_far ?_ NB276_284.out _; (with_reducible repeat (first | apply blk_drewN | apply blk_drew | apply blk_alloc)); exact BK276.out⟩, ⟨by (with_reducible repeat (first | apply blk_drewN | apply blk_drew | apply blk_alloc)); refine blk_put (cs := #[.slice Ao43 t287.length co43, .bool t290, .bool t291, .int .i64 t282]) ?_ 3 _ rfl; (with_reducible repeat (first | apply blk_drewN | apply blk_drew | apply blk_alloc)); refine blk_put (cs := #[.slice Ao43 t287.length co43, .bool t290, .bool t281, .int .i64 t282]) ?_ 2 _ rfl; (with_reducible repeat (first | apply blk_drewN | apply blk_drew | apply blk_alloc)); refine blk_put (cs := #[.slice Ao43 t287.length co43, .bool t280, .bool t281, .int .i64 t282]) ?_ 1 _ rfl; (with_reducible repeat (first | apply blk_drewN | apply blk_drew | apply blk_alloc)); refine blk_put (cs := #[.slice Ao34 t277.length co34, .bool t280, .bool t281, .int .i64 t282]) ?_ 0 _ rfl; (with_reducible repeat (first | apply blk_drewN | apply blk_drew | apply blk_alloc)); exact BK284.out⟩, ⟨by repeat (first | (with_reducible first | exact HB.out | apply below_alloc | apply pw_below_drewN | apply below_drew1 | refine below_set ?_ GE269.out | refine below_set ?_ GE276.out | refine below_set ?_ GE284.out) | exact HB.out)⟩⟩
          ·
           rw [if_neg c38] at H
           have c38b0 : decide (0 < (Int.tmod ((rd_T37 l0 x8_1).f0) 3)) = false := decide_eq_false c38
           clear c38
           (first | rw [c38b0] | (simp only [i64_w, i32_w]; rw [c38b0]) | skip)
           have H' := Aside0.mk H
           clear H
           go_wp2
           go_meet
           case rel => exact ⟨_, (t283), (t277), (t280), (t281), (t282), (.slice Ao34 t277.length co34), (by first | rfl | (simp; done) | (simp [*]; done)), H', ⟨by have := HK1.out; have := HJ10.out; first | omega | exact Nat.le_refl _⟩, ⟨by (with_reducible repeat (first | apply Kd.V_alloc | apply Kd.V_drewN | apply Kd.V_drew)); exact Kd.V_mono (Kd.V_far (p := ⟨gb284, 3, none⟩) (Kd.V_far (p := ⟨gb284, 2, none⟩) (Kd.V_far (p := ⟨gb284, 1, none⟩) (Kd.V_far (p := ⟨gb284, 0, none⟩) (Kd.V_mono HO_270000.out (fun k_ hk => (⟨hk, hk.2⟩ : _ ∧ k_ ≠ gb284))) (fun _ hk => hk.2) _) (fun _ hk => hk.2) (.bool t280)) (fun _ hk => hk.2) (.bool t281)) (fun _ hk => hk.2) _) (fun _ hk => ⟨hk.1.1.1, ⟨hk.1.1.2, hk.1.2⟩⟩)⟩, ⟨by (with_reducible repeat (first | apply Kd.V_alloc | apply Kd.V_drewN | apply Kd.V_drew)); exact Kd.V_mono (Kd.V_far (p := ⟨gb284, 3, none⟩) (Kd.V_far (p := ⟨gb284, 2, none⟩) (Kd.V_far (p := ⟨gb284, 1, none⟩) (Kd.V_far (p := ⟨gb284, 0, none⟩) (Kd.V_mono HO279.out (fun k_ hk => (⟨hk, hk.2⟩ : _ ∧ k_ ≠ gb284))) (fun _ hk => hk.2) _) (fun _ hk => hk.2) (.bool t280)) (fun _ hk => hk.2) (.bool t281)) (fun _ hk => hk.2) _) (fun _ hk => ⟨hk.1.1.1, ⟨hk.1.1.2, hk.1.2⟩⟩)⟩, ⟨by (with_reducible repeat (first | apply blk_drewN | apply blk_drew | apply blk_alloc)); refine blk_far ?_ NB269_284.out _; (with_reducible repeat (first | apply blk_drewN | apply blk_drew | apply blk_alloc)); refine blk_far ?_ NB269_284.out _; (with_reducible repeat (first | apply blk_drewN | apply blk_drew | apply blk_alloc)); refine blk_far ?_ NB269_284.out _; (with_reducible repeat (first | apply blk_drewN | apply blk_drew | apply blk_alloc)); refine blk_far ?_ NB269_284.out _; (with_reducible repeat (first | apply blk_drewN | apply blk_drew | apply blk_alloc)); exact BK269.out⟩, ⟨by (with_reducible repeat (first | apply blk_drewN | apply blk_drew | apply blk_alloc)); refine blk_far ?_ NB276_284.out _; (with_reducible repeat (first | apply blk_drewN | apply blk_drew | apply blk_alloc)); refine blk_far ?_ NB276_284.out _; (with_reducible repeat (first | apply blk_drewN | apply blk_drew | apply blk_alloc)); refine blk_far ?_ NB276_284.out _; (with_reducible repeat (first | apply blk_drewN | apply blk_drew | apply blk_alloc)); refine blk_far ?_ NB276_284.out _; (with_reducible repeat (first | apply blk_drewN | apply blk_drew | apply blk_alloc)); exact BK276.out⟩, ⟨by (with_reducible repeat (first | apply blk_drewN | apply blk_drew | apply blk_alloc)); refine blk_put (cs := #[.slice Ao34 t277.length co34, .bool t280, .bool t281, .int .i64 0]) ?_ 3 _ rfl; (with_reducible repeat (first | apply blk_drewN | apply blk_drew | apply blk_alloc)); refine blk_put (cs := #[.slice Ao34 t277.length co34, .bool t280, .bool false, .int .i64 0]) ?_ 2 _ rfl; (with_reducible repeat (first | apply blk_drewN | apply blk_drew | apply blk_alloc)); refine blk_put (cs := #[.slice Ao34 t277.length co34, .bool false, .bool false, .int .i64 0]) ?_ 1 _ rfl; (with_reducible repeat (first | apply blk_drewN | apply blk_drew | apply blk_alloc)); refine blk_put (cs := #[.slice none 0 0, .bool false, .bool false, .int .i64 0]) ?_ 0 _ rfl; (with_reducible repeat (first | apply blk_drewN | apply blk_drew | apply blk_alloc)); exact BK284.out⟩, ⟨by repeat (first | (with_reducible first | exact HB.out | apply below_alloc | apply pw_below_drewN | apply below_drew1 | refine below_set ?_ GE269.out | refine below_set ?_ GE276.out | refine below_set ?_ GE284.out) | exact HB.out)⟩⟩
         case rest =>
          clear HC18
          try clear c1
          try clear c2
          try clear p2
          try clear q2
          try clear hx2
          try clear c3
          try clear p6
          try clear c17
          try clear c19
          try clear c21
          try clear p27
          try clear q27
          try clear hx27
          try clear c28
          try clear p28
          try clear q28
          try clear hx28
          try clear c35
          try clear c36
          try clear c38
          try clear c38b0
          try clear hcz29_0
          try clear hcz29_1
          try clear hcz29_2
          try clear hcz29_3
          try clear hcz30_0
          try clear hcz30_1
          try clear hcz30_2
          try clear hcz30_3
          try clear hcz37_0
          try clear hcz37_1
          try clear hcz37_2
          try clear hcz37_3
          try clear hfz29_0
          try clear hfz29_1
          try clear hfz29_2
          try clear hfz29_3
          try clear hfz30_0
          try clear hfz30_1
          try clear hfz30_2
          try clear hfz30_3
          try clear hfz37_0
          try clear hfz37_1
          try clear hfz37_2
          try clear hfz37_3
          try clear hx270_0
          try clear hx270_1
          try clear hx270_2
          try clear hx270_3
          try clear hx270_4
          try clear hx270_5
          try clear hx271_0
          try clear hx271_1
          try clear hx271_2
          try clear hx271_3
          try clear hx271_4
          try clear hx271_5
          try clear hx285_0
          try clear hx285_1
          try clear hx285_2
          try clear hx285_3
          try clear hx285_4
          try clear hx285_5
          try clear hx286_0
          try clear hx286_1
          try clear hx286_2
          try clear hx286_3
          try clear hx286_4
          try clear hx286_5
          try clear p271
          try clear p285
          try clear p286
          try clear q271
          try clear q285
          try clear q286
          obtain ⟨kq, x12_17, x285000_17, x285001_17, x285002_17, x285003_17, u285000, rfl, HA, HJ17, HO_270000, HO_285000, BK269, BK276, BK284, HB⟩ := hcut
          cases kq with
          | zero => exact absurd HA.out (by simp [clinkerlaw05_NandCounts.j2])
          | succ kj17 =>
           have H := HA.out
           clear HA
           simp only [clinkerlaw05_NandCounts.j2] at H
           by_cases c48 : (x285000_17.length : Int) = 3
           ·
            rw [if_pos c48] at H
            have c48b0 : ((x285000_17.length : Int) == 3) = true := beq_iff_eq.mpr c48
            have c48b1 : ((x285000_17.length : Int) != 3) = false := bne_eq_false_iff_eq.mpr c48
            clear c48
            have HC49 := Aside0.mk H
            clear H
            have hnb50 := NB284_269.out
            have hnc50 := NB269_284.out
            have hnb51 := NB284_276.out
            have hnc51 := NB276_284.out
            have hcz52_0 : wc.cell? ⟨gb284, 0, none⟩ = some (u285000) := (blk_cell BK284.out 0).trans rfl
            have hcz52_1 : wc.cell? ⟨gb284, 1, none⟩ = some (.bool x285001_17) := (blk_cell BK284.out 1).trans rfl
            have hcz52_2 : wc.cell? ⟨gb284, 2, none⟩ = some (.bool x285002_17) := (blk_cell BK284.out 2).trans rfl
            have hcz52_3 : wc.cell? ⟨gb284, 3, none⟩ = some (.int .i64 x285003_17) := (blk_cell BK284.out 3).trans rfl
            have hfz52_0 := blk_frozen BK284.out 0
            have hfz52_1 := blk_frozen BK284.out 1
            have hfz52_2 := blk_frozen BK284.out 2
            have hfz52_3 := blk_frozen BK284.out 3
            obtain ⟨Ao53, co53, eo53⟩ := Kd.V_slice HO_285000.out
            subst eo53
            go_upto_if 84 with (fail)
            go_cut [13] (fun v13 wc => ∃ (kq : Nat) (x13_48 : Int), v13 = .int .i64 x13_48 ∧ Aside0 (clinkerlaw05_NandCounts.j3 kq l0 true x8_1 x12_17 x13_48 x270000_1 x270001_1 x270002_1 x270003_1 x285000_17 x285001_17 x285002_17 x285003_17 = some r) ∧ Aside0 (kq ≤ kj17) ∧ Aside0 (Kd.V k44 44 wc w.heap.size (fun k_ => k_ ≠ gb269 ∧ k_ ≠ gb276 ∧ k_ ≠ gb284) (.slice Ao31 x270000_1.length co31) x270000_1) ∧ Aside0 (Kd.V k44 44 wc w.heap.size (fun k_ => k_ ≠ gb269 ∧ k_ ≠ gb276 ∧ k_ ≠ gb284) (.slice Ao53 x285000_17.length co53) x285000_17) ∧ Aside0 (wc.heap[gb269]? = some (.cells #[(.slice Ao31 x270000_1.length co31), .bool x270001_1, .bool x270002_1, .int .i64 x270003_1] 27 (0, 0))) ∧ Aside0 (wc.heap[gb276]? = some (.cells #[.int .i64 t272, .string t273, .string t274, .int .i64 t275] 41 (0, 0))) ∧ Aside0 (wc.heap[gb284]? = some (.cells #[(.slice Ao53 x285000_17.length co53), .bool x285001_17, .bool x285002_17, .int .i64 x285003_17] 27 (0, 0))) ∧ Aside0 (Below w.heap.size w wc))
            case first =>
             have H := HC49.out
             clear HC49
             by_cases c54 : x12_17 = 1
             ·
              rw [if_pos c54] at H
              have c54b0 : (x12_17 == 1) = true := beq_iff_eq.mpr c54
              have c54b1 : (x12_17 != 1) = false := bne_eq_false_iff_eq.mpr c54
              clear c54
              (first | rw [c54b0] | (simp only [i64_w, i32_w]; rw [c54b0]) | skip)
              have H' := Aside0.mk H
              clear H
              go_wp2
              go_meet
              case rel => exact ⟨_, (0), (by first | rfl | (simp; done) | (simp [*]; done)), H', ⟨by have := HK1.out; have := HJ10.out; have := HJ17.out; first | omega | exact Nat.le_refl _⟩, ⟨by (with_reducible repeat (first | apply Kd.V_alloc | apply Kd.V_drewN | apply Kd.V_drew)); exact HO_270000.out⟩, ⟨by (with_reducible repeat (first | apply Kd.V_alloc | apply Kd.V_drewN | apply Kd.V_drew)); exact HO_285000.out⟩, ⟨by (with_reducible repeat (first | apply blk_drewN | apply blk_drew | apply blk_alloc)); exact BK269.out⟩, ⟨by (with_reducible repeat (first | apply blk_drewN | apply blk_drew | apply blk_alloc)); exact BK276.out⟩, ⟨by (with_reducible repeat (first | apply blk_drewN | apply blk_drew | apply blk_alloc)); exact BK284.out⟩, ⟨by repeat (first | (with_reducible first | exact HB.out | apply below_alloc | apply pw_below_drewN | apply below_drew1 | refine below_set ?_ GE269.out | refine below_set ?_ GE276.out | refine below_set ?_ GE284.out) | exact HB.out)⟩⟩
             ·
              rw [if_neg c54] at H
              have c54b0 : (x12_17 == 1) = false := beq_eq_false_iff_ne.mpr c54
              have c54b1 : (x12_17 != 1) = true := bne_iff_ne.mpr c54
              (first | rw [c54b0] | (simp only [i64_w, i32_w]; rw [c54b0]) | skip)
              have H' := Aside0.mk H
              clear H
              go_wp2
              go_meet
              case rel => exact ⟨_, (1), (by first | rfl | (simp; done) | (simp [*]; done)), H', ⟨by have := HK1.out; have := HJ10.out; have := HJ17.out; first | omega | exact Nat.le_refl _⟩, ⟨by (with_reducible repeat (first | apply Kd.V_alloc | apply Kd.V_drewN | apply Kd.V_drew)); exact HO_270000.out⟩, ⟨by (with_reducible repeat (first | apply Kd.V_alloc | apply Kd.V_drewN | apply Kd.V_drew)); exact HO_285000.out⟩, ⟨by (with_reducible repeat (first | apply blk_drewN | apply blk_drew | apply blk_alloc)); exact BK269.out⟩, ⟨by (with_reducible repeat (first | apply blk_drewN | apply blk_drew | apply blk_alloc)); exact BK276.out⟩, ⟨by (with_reducible repeat (first | apply blk_drewN | apply blk_drew | apply blk_alloc)); exact BK284.out⟩, ⟨by repeat (first | (with_reducible first | exact HB.out | apply below_alloc | apply pw_below_drewN | apply below_drew1 | refine below_set ?_ GE269.out | refine below_set ?_ GE276.out | refine below_set ?_ GE284.out) | exact HB.out)⟩⟩
            case rest =>
             clear HC49
             try clear c1
             try clear c2
             try clear p2
             try clear q2
             try clear hx2
             try clear c3
             try clear c4
             try clear c5
             try clear p6
             try clear c17
             try clear c19
             try clear c21
             try clear p27
             try clear q27
             try clear hx27
             try clear c28
             try clear p28
             try clear q28
             try clear hx28
             try clear c35
             try clear c36
             try clear c38
             try clear c38b0
             try clear c48
             try clear c48b0
             try clear c48b1
             try clear c50
             try clear c51
             try clear c54
             try clear c54b0
             try clear c54b1
             try clear hcz29_0
             try clear hcz29_1
             try clear hcz29_2
             try clear hcz29_3
             try clear hcz30_0
             try clear hcz30_1
             try clear hcz30_2
             try clear hcz30_3
             try clear hcz37_0
             try clear hcz37_1
             try clear hcz37_2
             try clear hcz37_3
             try clear hcz52_0
             try clear hcz52_1
             try clear hcz52_2
             try clear hcz52_3
             try clear hfz29_0
             try clear hfz29_1
             try clear hfz29_2
             try clear hfz29_3
             try clear hfz30_0
             try clear hfz30_1
             try clear hfz30_2
             try clear hfz30_3
             try clear hfz37_0
             try clear hfz37_1
             try clear hfz37_2
             try clear hfz37_3
             try clear hfz52_0
             try clear hfz52_1
             try clear hfz52_2
             try clear hfz52_3
             try clear hx270_0
             try clear hx270_1
             try clear hx270_2
             try clear hx270_3
             try clear hx270_4
             try clear hx270_5
             try clear hx271_0
             try clear hx271_1
             try clear hx271_2
             try clear hx271_3
             try clear hx271_4
             try clear hx271_5
             try clear hx285_0
             try clear hx285_1
             try clear hx285_2
             try clear hx285_3
             try clear hx285_4
             try clear hx285_5
             try clear hx286_0
             try clear hx286_1
             try clear hx286_2
             try clear hx286_3
             try clear hx286_4
             try clear hx286_5
             try clear p2
             try clear p27
             try clear p271
             try clear p28
             try clear p285
             try clear p286
             try clear p6
             try clear q2
             try clear q27
             try clear q271
             try clear q28
             try clear q285
             try clear q286
             obtain ⟨kq, x13_48, rfl, HA, HJ48, HO_270000, HO_285000, BK269, BK276, BK284, HB⟩ := hcut
             cases kq with
             | zero => exact absurd HA.out (by simp [clinkerlaw05_NandCounts.j3])
             | succ kj48 =>
              have H := HA.out
              clear HA
              simp only [clinkerlaw05_NandCounts.j3] at H
              have H' := Aside0.mk H
              clear H
              go_wp2
              go_loopg [14, 15] kj48 (fun kq v14 v15 w' => ∃ (x14_5 : Int) (x15_5 : Int), v14 = .int .i64 x14_5 ∧ v15 = .int .i64 x15_5 ∧ Aside0 (clinkerlaw05_NandCounts.l1 kq l0 true x8_1 x12_17 x13_48 x14_5 x15_5 x270000_1 x270001_1 x270002_1 x270003_1 x285000_17 x285001_17 x285002_17 x285003_17 = some r) ∧ Aside0 (kq ≤ kj48) ∧ Aside0 (Kd.V k44 44 w' w.heap.size (fun k_ => k_ ≠ gb269 ∧ k_ ≠ gb276 ∧ k_ ≠ gb284) (.slice Ao31 x270000_1.length co31) x270000_1) ∧ Aside0 (Kd.V k44 44 w' w.heap.size (fun k_ => k_ ≠ gb269 ∧ k_ ≠ gb276 ∧ k_ ≠ gb284) (.slice Ao53 x285000_17.length co53) x285000_17) ∧ Aside0 (w'.heap[gb269]? = some (.cells #[(.slice Ao31 x270000_1.length co31), .bool x270001_1, .bool x270002_1, .int .i64 x270003_1] 27 (0, 0))) ∧ Aside0 (w'.heap[gb276]? = some (.cells #[.int .i64 t272, .string t273, .string t274, .int .i64 t275] 41 (0, 0))) ∧ Aside0 (w'.heap[gb284]? = some (.cells #[(.slice Ao53 x285000_17.length co53), .bool x285001_17, .bool x285002_17, .int .i64 x285003_17] 27 (0, 0))) ∧ Aside0 (Below w.heap.size w w'))
              case atStart => exact ⟨(0), (0), (by first | rfl | (simp; done) | (simp [*]; done)), (by first | rfl | (simp; done) | (simp [*]; done)), H', ⟨Nat.le_refl _⟩, ⟨by (with_reducible repeat (first | apply Kd.V_alloc | apply Kd.V_drewN | apply Kd.V_drew)); exact HO_270000.out⟩, ⟨by (with_reducible repeat (first | apply Kd.V_alloc | apply Kd.V_drewN | apply Kd.V_drew)); exact HO_285000.out⟩, ⟨by (with_reducible repeat (first | apply blk_drewN | apply blk_drew | apply blk_alloc)); exact BK269.out⟩, ⟨by (with_reducible repeat (first | apply blk_drewN | apply blk_drew | apply blk_alloc)); exact BK276.out⟩, ⟨by (with_reducible repeat (first | apply blk_drewN | apply blk_drew | apply blk_alloc)); exact BK284.out⟩, ⟨by repeat (first | (with_reducible first | exact HB.out | apply below_alloc | apply pw_below_drewN | apply below_drew1 | refine below_set ?_ GE269.out | refine below_set ?_ GE276.out | refine below_set ?_ GE284.out) | exact HB.out)⟩⟩
              case round =>
               clear H'
               try clear c1
               try clear c2
               try clear p2
               try clear q2
               try clear hx2
               try clear c3
               try clear c4
               try clear c5
               try clear p6
               try clear c17
               try clear c19
               try clear c21
               try clear p27
               try clear q27
               try clear hx27
               try clear c28
               try clear p28
               try clear q28
               try clear hx28
               try clear c35
               try clear c36
               try clear c38
               try clear c38b0
               try clear c48
               try clear c48b0
               try clear c48b1
               try clear c50
               try clear c51
               try clear c54
               try clear c54b0
               try clear c54b1
               try clear hcz29_0
               try clear hcz29_1
               try clear hcz29_2
               try clear hcz29_3
               try clear hcz30_0
               try clear hcz30_1
               try clear hcz30_2
               try clear hcz30_3
               try clear hcz37_0
               try clear hcz37_1
               try clear hcz37_2
               try clear hcz37_3
               try clear hcz52_0
               try clear hcz52_1
               try clear hcz52_2
               try clear hcz52_3
               try clear hfz29_0
               try clear hfz29_1
               try clear hfz29_2
               try clear hfz29_3
               try clear hfz30_0
               try clear hfz30_1
               try clear hfz30_2
               try clear hfz30_3
               try clear hfz37_0
               try clear hfz37_1
               try clear hfz37_2
               try clear hfz37_3
               try clear hfz52_0
               try clear hfz52_1
               try clear hfz52_2
               try clear hfz52_3
               try clear hx270_0
               try clear hx270_1
               try clear hx270_2
               try clear hx270_3
               try clear hx270_4
               try clear hx270_5
               try clear hx271_0
               try clear hx271_1
               try clear hx271_2
               try clear hx271_3
               try clear hx271_4
               try clear hx271_5
               try clear hx285_0
               try clear hx285_1
               try clear hx285_2
               try clear hx285_3
               try clear hx285_4
               try clear hx285_5
               try clear hx286_0
               try clear hx286_1
               try clear hx286_2
               try clear hx286_3
               try clear hx286_4
               try clear hx286_5
               try clear p2
               try clear p27
               try clear p271
               try clear p28
               try clear p285
               try clear p286
               try clear p6
               try clear q2
               try clear q27
               try clear q271
               try clear q28
               try clear q285
               try clear q286
               obtain ⟨x14_5, x15_5, rfl, rfl, HA, HK5, HO_270000, HO_285000, BK269, BK276, BK284, HB⟩ := hrel
               cases gk with
               | zero => exact absurd HA.out (by simp [clinkerlaw05_NandCounts.l1])
               | succ k5 =>
                have H := HA.out
                clear HA
                simp only [clinkerlaw05_NandCounts.l1] at H
                by_cases c55 : x15_5 < 3
                ·
                 rw [if_pos c55] at H
                 have c55b0 : decide (x15_5 < 3) = true := decide_eq_true c55
                 clear c55
                 by_cases c56 : 0 ≤ x15_5
                 ·
                  rw [if_pos c56] at H
                  have c56b0 : decide (0 ≤ x15_5) = true := decide_eq_true c56
                  clear c56
                  by_cases c57 : x15_5 < (x285000_17.length : Int)
                  ·
                   rw [if_pos c57] at H
                   have c57b0 : decide (x15_5 < (x285000_17.length : Int)) = true := decide_eq_true c57
                   clear c57
                   by_cases c58 : x15_5 < (x270000_1.length : Int)
                   ·
                    rw [if_pos c58] at H
                    have c58b0 : decide (x15_5 < (x270000_1.length : Int)) = true := decide_eq_true c58
                    clear c58
                    have H' := Aside0.mk H
                    clear H
                    try go_wp2
                    have n0_ := Aside0.mk (Kd.V_drew HO_270000.out)
                    have n1_ := Aside0.mk (Kd.V_drew HO_285000.out)
                    have n2_ := Aside0.mk (blk_drew BK269.out)
                    have n3_ := Aside0.mk (blk_drew BK276.out)
                    have n4_ := Aside0.mk (blk_drew BK284.out)
                    have n5_ := Aside0.mk (below_drew1 HB.out)
                    clear HO_270000
                    clear HO_285000
                    clear BK269
                    clear BK276
                    clear BK284
                    clear HB
                    have HO_270000 := n0_
                    have HO_285000 := n1_
                    have BK269 := n2_
                    have BK276 := n3_
                    have BK284 := n4_
                    have HB := n5_
                    clear n0_ n1_ n2_ n3_ n4_ n5_
                    have p294 : 0 ≤ (x15_5 : Int) := of_decide_eq_true (by first | (with_reducible assumption) | assumption)
                    have q294 : x15_5 < (x285000_17.length : Int) := of_decide_eq_true (by first | (with_reducible assumption) | assumption)
                    obtain ⟨ad294, A294_0, c294_0, e294, hx294_0, hx294_1, hx294_2, hx294_3, hl294_0, hi294_0⟩ := at_T44 (Kd.V_reads' HO_285000.out).2.2 x15_5 p294 q294
                    cases e294
                    obtain ⟨ce294, hce294, hMe294, hcc294⟩ := Kd.V_get HO_285000.out z44 x15_5 p294 (by first | exact q294 | exact of_decide_eq_true (by first | (with_reducible assumption) | assumption) | (have e_ := (Kd.V_reads' HO_285000.out).1; omega))
                    obtain ⟨ua294_0, uc294_0, rfl, ul294_0, ge294_0⟩ := k44_openF hMe294
                    have hv294_0 := hcc294 0 _ rfl
                    rw [Nat.add_zero] at hv294_0
                    replace hv294_0 := Option.some.inj (hv294_0.symm.trans hx294_0)
                    injection hv294_0 with hva_ hvn_ hvc_
                    rw [hva_] at ge294_0
                    rw [hvc_] at ul294_0
                    have HL294_0 := Aside0.mk (show Kd.V k46 46 _ w.heap.size _ _ ((rd_T44 x285000_17 x15_5).f0) from Kd.V_mk ul294_0 ge294_0)
                    clear hva_ hvn_ hvc_ ge294_0 ul294_0
                    clear hcc294 hce294
                    have HR294_0 := Aside0.mk hi294_0
                    have HC294_0 := Aside0.mk hl294_0
                    clear hi294_0 hl294_0
                    replace p294 := eq_true p294
                    replace q294 := eq_true q294
                    have p295 : 0 ≤ (x15_5 : Int) := of_decide_eq_true (by first | (with_reducible assumption) | assumption)
                    have q295 : x15_5 < (x270000_1.length : Int) := of_decide_eq_true (by first | (with_reducible assumption) | assumption)
                    obtain ⟨ad295, A295_0, c295_0, e295, hx295_0, hx295_1, hx295_2, hx295_3, hl295_0, hi295_0⟩ := at_T44 (Kd.V_reads' HO_270000.out).2.2 x15_5 p295 q295
                    cases e295
                    obtain ⟨ce295, hce295, hMe295, hcc295⟩ := Kd.V_get HO_270000.out z44 x15_5 p295 (by first | exact q295 | exact of_decide_eq_true (by first | (with_reducible assumption) | assumption) | (have e_ := (Kd.V_reads' HO_270000.out).1; omega))
                    obtain ⟨ua295_0, uc295_0, rfl, ul295_0, ge295_0⟩ := k44_openF hMe295
                    have hv295_0 := hcc295 0 _ rfl
                    rw [Nat.add_zero] at hv295_0
                    replace hv295_0 := Option.some.inj (hv295_0.symm.trans hx295_0)
                    injection hv295_0 with hva_ hvn_ hvc_
                    rw [hva_] at ge295_0
                    rw [hvc_] at ul295_0
                    have HL295_0 := Aside0.mk (show Kd.V k46 46 _ w.heap.size _ _ ((rd_T44 x270000_1 x15_5).f0) from Kd.V_mk ul295_0 ge295_0)
                    clear hva_ hvn_ hvc_ ge295_0 ul295_0
                    clear hcc295 hce295
                    have HR295_0 := Aside0.mk hi295_0
                    have HC295_0 := Aside0.mk hl295_0
                    clear hi295_0 hl295_0
                    replace p295 := eq_true p295
                    replace q295 := eq_true q295
                    refine start_ (n := 16) (S := fun w' => w'.cell? ⟨gb284, 0, none⟩ = some (.slice (some ad294) x285000_17.length co53) ∧ w'.cell? ⟨gb284, 1, none⟩ = some (.bool x285001_17) ∧ w'.cell? ⟨gb284, 2, none⟩ = some (.bool x285002_17) ∧ w'.cell? ⟨gb284, 3, none⟩ = some (.int .i64 x285003_17) ∧ w'.cell? ⟨gb269, 0, none⟩ = some (.slice (some ad295) x270000_1.length co31) ∧ w'.cell? ⟨gb269, 1, none⟩ = some (.bool x270001_1) ∧ w'.cell? ⟨gb269, 2, none⟩ = some (.bool x270002_1) ∧ w'.cell? ⟨gb269, 3, none⟩ = some (.int .i64 x270003_1) ∧ w'.cell? (ad294.add ((x15_5).toNat * 4)) = some (.slice A294_0 ((rd_T44 x285000_17 x15_5).f0).length c294_0) ∧ w'.cell? ⟨(ad294.add ((x15_5).toNat * 4)).block, (ad294.add ((x15_5).toNat * 4)).off + 1, none⟩ = some (.int .i64 ((rd_T44 x285000_17 x15_5).f1)) ∧ w'.cell? ⟨(ad294.add ((x15_5).toNat * 4)).block, (ad294.add ((x15_5).toNat * 4)).off + 2, none⟩ = some (.int .i64 ((rd_T44 x285000_17 x15_5).f2)) ∧ w'.cell? ⟨(ad294.add ((x15_5).toNat * 4)).block, (ad294.add ((x15_5).toNat * 4)).off + 3, none⟩ = some (.bool ((rd_T44 x285000_17 x15_5).f3)) ∧ w'.cell? (ad295.add ((x15_5).toNat * 4)) = some (.slice A295_0 ((rd_T44 x270000_1 x15_5).f0).length c295_0) ∧ w'.cell? ⟨(ad295.add ((x15_5).toNat * 4)).block, (ad295.add ((x15_5).toNat * 4)).off + 1, none⟩ = some (.int .i64 ((rd_T44 x270000_1 x15_5).f1)) ∧ w'.cell? ⟨(ad295.add ((x15_5).toNat * 4)).block, (ad295.add ((x15_5).toNat * 4)).off + 2, none⟩ = some (.int .i64 ((rd_T44 x270000_1 x15_5).f2)) ∧ w'.cell? ⟨(ad295.add ((x15_5).toNat * 4)).block, (ad295.add ((x15_5).toNat * 4)).off + 3, none⟩ = some (.bool ((rd_T44 x270000_1 x15_5).f3))) (ds := []) #[false, false, false, false, false, false, false, false, false, false, false, false, false, false, false, false] (by kernel_rfl) rfl rfl ⟨(blk_cell BK284.out 0).trans rfl, (blk_cell BK284.out 1).trans rfl, (blk_cell BK284.out 2).trans rfl, (blk_cell BK284.out 3).trans rfl, (blk_cell BK269.out 0).trans rfl, (blk_cell BK269.out 1).trans rfl, (blk_cell BK269.out 2).trans rfl, (blk_cell BK269.out 3).trans rfl, hx294_0, hx294_1, hx294_2, hx294_3, hx295_0, hx295_1, hx295_2, hx295_3⟩ (fun hHeld => ?_); refine with_tabW clinkerlaw05_NandCounts.tab21 clinkerlaw05_NandCounts.bits21 (fun HT_ HW_ => ?_)
                    generalize wr.drew = w59 at HO_270000 HO_285000 BK269 BK276 BK284 HB HL294_0 HL295_0 HR294_0 HR295_0 hx294_0 hx294_1 hx294_2 hx294_3 hx295_0 hx295_1 hx295_2 hx295_3 hHeld ⊢
                    refine pure_ (i := 0) (N := some 89) (v := ?_) (a' := ?_) #[true, false, false, false, false, false, false, false, false, false, false, false, false, false, false, false] rfl rfl (any_of HT_.out (by kernel_rfl)) (fun _ _ _ h => h) (Or.inl ⟨by rfl, ?_⟩) ?_ ?_
                    rotate_left
                    ·
                     intro w'
                     go_simp
                     with_reducible rfl
                    rotate_left
                    ·
                     simp only [Act.put, List.setIfInBounds_toArray, List.set_cons_zero, List.set_cons_succ, i64_w, i32_w]
                     rfl
                    refine pure_ (i := 1) (N := some 90) (v := ?_) (a' := ?_) #[true, true, false, false, false, false, false, false, false, false, false, false, false, false, false, false] rfl rfl (any_of HT_.out (by kernel_rfl)) (fun _ _ _ h => h) (Or.inl ⟨by rfl, ?_⟩) ?_ ?_
                    rotate_left
                    ·
                     intro w'
                     go_simp
                     with_reducible rfl
                    rotate_left
                    ·
                     simp only [Act.put, List.setIfInBounds_toArray, List.set_cons_zero, List.set_cons_succ, i64_w, i32_w]
                     rfl
                    refine pure_ (i := 3) (N := some 92) (v := ?_) (a' := ?_) #[true, true, false, true, false, false, false, false, false, false, false, false, false, false, false, false] rfl rfl (any_of HT_.out (by kernel_rfl)) (fun _ _ _ h => h) (Or.inl ⟨by rfl, ?_⟩) ?_ ?_
                    rotate_left
                    ·
                     intro w'
                     go_simp
                     with_reducible rfl
                    rotate_left
                    ·
                     simp only [Act.put, List.setIfInBounds_toArray, List.set_cons_zero, List.set_cons_succ, i64_w, i32_w]
                     rfl
                    refine pure_ (i := 8) (N := some 97) (v := ?_) (a' := ?_) #[true, true, false, true, false, false, false, false, true, false, false, false, false, false, false, false] rfl rfl (any_of HT_.out (by kernel_rfl)) (fun _ _ _ h => h) (Or.inl ⟨by rfl, ?_⟩) ?_ ?_
                    rotate_left
                    ·
                     intro w'
                     go_simp
                     with_reducible rfl
                    rotate_left
                    ·
                     simp only [Act.put, List.setIfInBounds_toArray, List.set_cons_zero, List.set_cons_succ, i64_w, i32_w]
                     rfl
                    refine pure_ (i := 10) (N := some 99) (v := ?_) (a' := ?_) #[true, true, false, true, false, false, false, false, true, false, true, false, false, false, false, false] rfl rfl (any_of HT_.out (by kernel_rfl)) (fun _ _ _ h => h) (Or.inl ⟨by rfl, ?_⟩) ?_ ?_
                    rotate_left
                    ·
                     intro w'
                     go_simp
                     with_reducible rfl
                    rotate_left
                    ·
                     simp only [Act.put, List.setIfInBounds_toArray, List.set_cons_zero, List.set_cons_succ, i64_w, i32_w]
                     rfl
                    refine take_ (i := 2) (N := some 91) (v := ?_) (a' := ?_) #[true, true, true, true, false, false, false, false, true, false, true, false, false, false, false, false] rfl rfl (take_ofW HT_.out HW_.out (by kernel_rfl)) (fun _ _ _ h => h) (Or.inl ⟨by rfl, ?_⟩) hHeld ?_ ?_
                    rotate_left
                    ·
                     rintro w' ⟨s0, s1, s2, s3, s4, s5, s6, s7, s8, s9, s10, s11, s12, s13, s14, s15⟩
                     go_simp
                     with_reducible rfl
                    rotate_left
                    ·
                     simp only [Act.put, List.setIfInBounds_toArray, List.set_cons_zero, List.set_cons_succ, i64_w, i32_w]
                     rfl
                    refine pure_ (i := 4) (N := some 93) (v := ?_) (a' := ?_) #[true, true, true, true, true, false, false, false, true, false, true, false, false, false, false, false] rfl rfl (any_of HT_.out (by kernel_rfl)) (fun _ _ _ h => h) (Or.inl ⟨by rfl, ?_⟩) ?_ ?_
                    rotate_left
                    ·
                     intro w'
                     go_simp
                     with_reducible rfl
                    rotate_left
                    ·
                     simp only [Act.put, List.setIfInBounds_toArray, List.set_cons_zero, List.set_cons_succ, i64_w, i32_w]
                     rfl
                    refine pure_ (i := 5) (N := some 94) (v := ?_) (a' := ?_) #[true, true, true, true, true, true, false, false, true, false, true, false, false, false, false, false] rfl rfl (any_of HT_.out (by kernel_rfl)) (fun _ _ _ h => h) (Or.inl ⟨by rfl, ?_⟩) ?_ ?_
                    rotate_left
                    ·
                     intro w'
                     go_simp
                     with_reducible rfl
                    rotate_left
                    ·
                     simp only [Act.put, List.setIfInBounds_toArray, List.set_cons_zero, List.set_cons_succ, i64_w, i32_w]
                     rfl
                    refine take_ (i := 6) (N := some 95) (v := ?_) (a' := ?_) #[true, true, true, true, true, true, true, false, true, false, true, false, false, false, false, false] rfl rfl (take_ofW HT_.out HW_.out (by kernel_rfl)) (fun _ _ _ h => h) (Or.inl ⟨by rfl, ?_⟩) hHeld ?_ ?_
                    rotate_left
                    ·
                     rintro w' ⟨s0, s1, s2, s3, s4, s5, s6, s7, s8, s9, s10, s11, s12, s13, s14, s15⟩
                     go_simp
                     with_reducible rfl
                    rotate_left
                    ·
                     simp only [Act.put, List.setIfInBounds_toArray, List.set_cons_zero, List.set_cons_succ, i64_w, i32_w]
                     rfl
                    refine pure_ (i := 7) (N := some 96) (v := ?_) (a' := ?_) #[true, true, true, true, true, true, true, true, true, false, true, false, false, false, false, false] rfl rfl (any_of HT_.out (by kernel_rfl)) (fun _ _ _ h => h) (Or.inl ⟨by rfl, ?_⟩) ?_ ?_
                    rotate_left
                    ·
                     intro w'
                     go_simp
                     with_reducible rfl
                    rotate_left
                    ·
                     simp only [Act.put, List.setIfInBounds_toArray, List.set_cons_zero, List.set_cons_succ, i64_w, i32_w]
                     rfl
                    refine take_ (i := 9) (N := some 98) (v := ?_) (a' := ?_) #[true, true, true, true, true, true, true, true, true, true, true, false, false, false, false, false] rfl rfl (take_ofW HT_.out HW_.out (by kernel_rfl)) (fun _ _ _ h => h) (Or.inl ⟨by rfl, ?_⟩) hHeld ?_ ?_
                    rotate_left
                    ·
                     rintro w' ⟨s0, s1, s2, s3, s4, s5, s6, s7, s8, s9, s10, s11, s12, s13, s14, s15⟩
                     go_simp
                     with_reducible rfl
                    rotate_left
                    ·
                     simp only [Act.put, List.setIfInBounds_toArray, List.set_cons_zero, List.set_cons_succ, i64_w, i32_w]
                     rfl
                    refine pure_ (i := 11) (N := some 100) (v := ?_) (a' := ?_) #[true, true, true, true, true, true, true, true, true, true, true, true, false, false, false, false] rfl rfl (any_of HT_.out (by kernel_rfl)) (fun _ _ _ h => h) (Or.inl ⟨by rfl, ?_⟩) ?_ ?_
                    rotate_left
                    ·
                     intro w'
                     go_simp
                     with_reducible rfl
                    rotate_left
                    ·
                     simp only [Act.put, List.setIfInBounds_toArray, List.set_cons_zero, List.set_cons_succ, i64_w, i32_w]
                     rfl
                    refine pure_ (i := 12) (N := some 101) (v := ?_) (a' := ?_) #[true, true, true, true, true, true, true, true, true, true, true, true, true, false, false, false] rfl rfl (any_of HT_.out (by kernel_rfl)) (fun _ _ _ h => h) (Or.inl ⟨by rfl, ?_⟩) ?_ ?_
                    rotate_left
                    ·
                     intro w'
                     go_simp
                     with_reducible rfl
                    rotate_left
                    ·
                     simp only [Act.put, List.setIfInBounds_toArray, List.set_cons_zero, List.set_cons_succ, i64_w, i32_w]
                     rfl
                    refine take_ (i := 13) (N := some 102) (v := ?_) (a' := ?_) #[true, true, true, true, true, true, true, true, true, true, true, true, true, true, false, false] rfl rfl (take_ofW HT_.out HW_.out (by kernel_rfl)) (fun _ _ _ h => h) (Or.inl ⟨by rfl, ?_⟩) hHeld ?_ ?_
                    rotate_left
                    ·
                     rintro w' ⟨s0, s1, s2, s3, s4, s5, s6, s7, s8, s9, s10, s11, s12, s13, s14, s15⟩
                     go_simp
                     with_reducible rfl
                    rotate_left
                    ·
                     simp only [Act.put, List.setIfInBounds_toArray, List.set_cons_zero, List.set_cons_succ, i64_w, i32_w]
                     rfl
                    refine pure_ (i := 14) (N := some 103) (v := ?_) (a' := ?_) #[true, true, true, true, true, true, true, true, true, true, true, true, true, true, true, false] rfl rfl (any_of HT_.out (by kernel_rfl)) (fun _ _ _ h => h) (Or.inl ⟨by rfl, ?_⟩) ?_ ?_
                    rotate_left
                    ·
                     intro w'
                     go_simp
                     with_reducible rfl
                    rotate_left
                    ·
                     simp only [Act.put, List.setIfInBounds_toArray, List.set_cons_zero, List.set_cons_succ, i64_w, i32_w]
                     rfl
                    refine pure_ (i := 15) (N := some 14) (v := ?_) (a' := ?_) #[true, true, true, true, true, true, true, true, true, true, true, true, true, true, true, true] rfl rfl (any_of HT_.out (by kernel_rfl)) (fun _ _ _ h => h) (Or.inl ⟨by rfl, ?_⟩) ?_ ?_
                    rotate_left
                    ·
                     intro w'
                     go_simp
                     with_reducible rfl
                    rotate_left
                    ·
                     simp only [Act.put, List.setIfInBounds_toArray, List.set_cons_zero, List.set_cons_succ, i64_w, i32_w]
                     rfl
                    refine done_ (done_of HT_.out (by kernel_rfl)) ?_
                    try go_wp2
                    go_roundg k5
                    case measure => have := HK1.out; have := HJ10.out; have := HJ17.out; have := HJ48.out; have := HK5.out; omega
                    case rel => exact ⟨(wrap64 ((wrap64 (x14_5 + ((rd_T44 x285000_17 x15_5).f2))) - ((rd_T44 x270000_1 x15_5).f2))), (wrap64 (x15_5 + 1)), (by first | rfl | (simp; done) | (simp [*]; done)), (by first | rfl | (simp; done) | (simp [*]; done)), H', ⟨by have := HK1.out; have := HJ10.out; have := HJ17.out; have := HJ48.out; have := HK5.out; omega⟩, ⟨by (with_reducible repeat (first | apply Kd.V_alloc | apply Kd.V_drewN | apply Kd.V_drew)); exact HO_270000.out⟩, ⟨by (with_reducible repeat (first | apply Kd.V_alloc | apply Kd.V_drewN | apply Kd.V_drew)); exact HO_285000.out⟩, ⟨by (with_reducible repeat (first | apply blk_drewN | apply blk_drew | apply blk_alloc)); exact BK269.out⟩, ⟨by (with_reducible repeat (first | apply blk_drewN | apply blk_drew | apply blk_alloc)); exact BK276.out⟩, ⟨by (with_reducible repeat (first | apply blk_drewN | apply blk_drew | apply blk_alloc)); exact BK284.out⟩, ⟨by repeat (first | (with_reducible first | exact HB.out | apply below_alloc | apply pw_below_drewN | apply below_drew1 | refine below_set ?_ GE269.out | refine below_set ?_ GE276.out | refine below_set ?_ GE284.out) | exact HB.out)⟩⟩
                   ·
                    rw [if_neg c58] at H
                    exact absurd H (by simp)
                  ·
                   rw [if_neg c57] at H
                   exact absurd H (by simp)
                 ·
                  rw [if_neg c56] at H
                  exact absurd H (by simp)
                ·
                 rw [if_neg c55] at H
                 have c55b0 : decide (x15_5 < 3) = false := decide_eq_false c55
                 clear c55
                 have HC60 := Aside0.mk H
                 clear H
                 go_upto_region 23 with (fail)
                 go_cut [118] (fun v118 wc => ∃ (kq : Nat) (x118_59 : Bool), v118 = .bool x118_59 ∧ Aside0 (clinkerlaw05_NandCounts.j5 kq l0 true x8_1 x13_48 x14_5 0 x118_59 x270000_1 x270001_1 x270002_1 x270003_1 x285000_17 x285001_17 x285002_17 x285003_17 = some r) ∧ Aside0 (kq ≤ k5) ∧ Aside0 (Kd.V k44 44 wc w.heap.size (fun k_ => k_ ≠ gb269 ∧ k_ ≠ gb276 ∧ k_ ≠ gb284) (.slice Ao31 x270000_1.length co31) x270000_1) ∧ Aside0 (Kd.V k44 44 wc w.heap.size (fun k_ => k_ ≠ gb269 ∧ k_ ≠ gb276 ∧ k_ ≠ gb284) (.slice Ao53 x285000_17.length co53) x285000_17) ∧ Aside0 (wc.heap[gb269]? = some (.cells #[(.slice Ao31 x270000_1.length co31), .bool x270001_1, .bool x270002_1, .int .i64 x270003_1] 27 (0, 0))) ∧ Aside0 (wc.heap[gb276]? = some (.cells #[.int .i64 t272, .string t273, .string t274, .int .i64 t275] 41 (0, 0))) ∧ Aside0 (wc.heap[gb284]? = some (.cells #[(.slice Ao53 x285000_17.length co53), .bool x285001_17, .bool x285002_17, .int .i64 x285003_17] 27 (0, 0))) ∧ Aside0 (Below w.heap.size w wc))
                 case first =>
                  have H := HC60.out
                  clear HC60
                  by_cases c61 : 0 ≤ x8_1
                  ·
                   rw [if_pos c61] at H
                   have c61b0 : decide (0 ≤ x8_1) = true := decide_eq_true c61
                   clear c61
                   (first | rw [c61b0] | (simp only [i64_w, i32_w]; rw [c61b0]) | skip)
                   by_cases c62 : x8_1 < (l0.length : Int)
                   ·
                    rw [if_pos c62] at H
                    have c62b0 : decide (x8_1 < (l0.length : Int)) = true := decide_eq_true c62
                    clear c62
                    by_cases c63 : (Int.tmod ((rd_T37 l0 x8_1).f0) 3) = 0
                    ·
                     rw [if_pos c63] at H
                     have c63b0 : ((Int.tmod ((rd_T37 l0 x8_1).f0) 3) == 0) = true := beq_iff_eq.mpr c63
                     have c63b1 : ((Int.tmod ((rd_T37 l0 x8_1).f0) 3) != 0) = false := bne_eq_false_iff_eq.mpr c63
                     clear c63
                     by_cases c64 : x12_17 = 0
                     ·
                      rw [if_pos c64] at H
                      have c64b0 : (x12_17 == 0) = true := beq_iff_eq.mpr c64
                      have c64b1 : (x12_17 != 0) = false := bne_eq_false_iff_eq.mpr c64
                      clear c64
                      have H' := Aside0.mk H
                      clear H
                      have p296 : 0 ≤ (x8_1 : Int) := of_decide_eq_true (by first | (with_reducible assumption) | assumption)
                      have q296 : x8_1 < (l0.length : Int) := of_decide_eq_true (by first | (with_reducible assumption) | assumption)
                      obtain ⟨ad296, e296, hx296_0, hx296_1, hx296_2, hx296_3, hx296_4, hx296_5⟩ := at_T37 HR0.out x8_1 p296 q296
                      obtain rfl : ad270 = ad296 := (by injection e296)
                      replace hx296_0 := (HB.out.cell (World.block_lt_of_cell? w _ hx296_0)).trans hx296_0
                      replace hx296_1 := (HB.out.cell (World.block_lt_of_cell? w _ hx296_1)).trans hx296_1
                      replace hx296_2 := (HB.out.cell (World.block_lt_of_cell? w _ hx296_2)).trans hx296_2
                      replace hx296_3 := (HB.out.cell (World.block_lt_of_cell? w _ hx296_3)).trans hx296_3
                      replace hx296_4 := (HB.out.cell (World.block_lt_of_cell? w _ hx296_4)).trans hx296_4
                      replace hx296_5 := (HB.out.cell (World.block_lt_of_cell? w _ hx296_5)).trans hx296_5
                      replace p296 := eq_true p296
                      replace q296 := eq_true q296
                      go_wp2
                      go_meet
                      case rel => exact ⟨_, (true), (by first | rfl | (simp; done) | (simp [*]; done)), H', ⟨by have := HK1.out; have := HJ10.out; have := HJ17.out; have := HJ48.out; have := HK5.out; first | omega | exact Nat.le_refl _⟩, ⟨by (with_reducible repeat (first | apply Kd.V_alloc | apply Kd.V_drewN | apply Kd.V_drew)); exact HO_270000.out⟩, ⟨by (with_reducible repeat (first | apply Kd.V_alloc | apply Kd.V_drewN | apply Kd.V_drew)); exact HO_285000.out⟩, ⟨by (with_reducible repeat (first | apply blk_drewN | apply blk_drew | apply blk_alloc)); exact BK269.out⟩, ⟨by (with_reducible repeat (first | apply blk_drewN | apply blk_drew | apply blk_alloc)); exact BK276.out⟩, ⟨by (with_reducible repeat (first | apply blk_drewN | apply blk_drew | apply blk_alloc)); exact BK284.out⟩, ⟨by repeat (first | (with_reducible first | exact HB.out | apply below_alloc | apply pw_below_drewN | apply below_drew1 | refine below_set ?_ GE269.out | refine below_set ?_ GE276.out | refine below_set ?_ GE284.out) | exact HB.out)⟩⟩
                     ·
                      rw [if_neg c64] at H
                      have c64b0 : (x12_17 == 0) = false := beq_eq_false_iff_ne.mpr c64
                      have c64b1 : (x12_17 != 0) = true := bne_iff_ne.mpr c64
                      have H' := Aside0.mk H
                      clear H
                      have p296 : 0 ≤ (x8_1 : Int) := of_decide_eq_true (by first | (with_reducible assumption) | assumption)
                      have q296 : x8_1 < (l0.length : Int) := of_decide_eq_true (by first | (with_reducible assumption) | assumption)
                      obtain ⟨ad296, e296, hx296_0, hx296_1, hx296_2, hx296_3, hx296_4, hx296_5⟩ := at_T37 HR0.out x8_1 p296 q296
                      obtain rfl : ad270 = ad296 := (by injection e296)
                      replace hx296_0 := (HB.out.cell (World.block_lt_of_cell? w _ hx296_0)).trans hx296_0
                      replace hx296_1 := (HB.out.cell (World.block_lt_of_cell? w _ hx296_1)).trans hx296_1
                      replace hx296_2 := (HB.out.cell (World.block_lt_of_cell? w _ hx296_2)).trans hx296_2
                      replace hx296_3 := (HB.out.cell (World.block_lt_of_cell? w _ hx296_3)).trans hx296_3
                      replace hx296_4 := (HB.out.cell (World.block_lt_of_cell? w _ hx296_4)).trans hx296_4
                      replace hx296_5 := (HB.out.cell (World.block_lt_of_cell? w _ hx296_5)).trans hx296_5
                      replace p296 := eq_true p296
                      replace q296 := eq_true q296
                      go_wp2
                      go_meet
                      case rel => exact ⟨_, ((x12_17 == 52)), (by first | rfl | (simp; done) | (simp [*]; done)), H', ⟨by have := HK1.out; have := HJ10.out; have := HJ17.out; have := HJ48.out; have := HK5.out; first | omega | exact Nat.le_refl _⟩, ⟨by (with_reducible repeat (first | apply Kd.V_alloc | apply Kd.V_drewN | apply Kd.V_drew)); exact HO_270000.out⟩, ⟨by (with_reducible repeat (first | apply Kd.V_alloc | apply Kd.V_drewN | apply Kd.V_drew)); exact HO_285000.out⟩, ⟨by (with_reducible repeat (first | apply blk_drewN | apply blk_drew | apply blk_alloc)); exact BK269.out⟩, ⟨by (with_reducible repeat (first | apply blk_drewN | apply blk_drew | apply blk_alloc)); exact BK276.out⟩, ⟨by (with_reducible repeat (first | apply blk_drewN | apply blk_drew | apply blk_alloc)); exact BK284.out⟩, ⟨by repeat (first | (with_reducible first | exact HB.out | apply below_alloc | apply pw_below_drewN | apply below_drew1 | refine below_set ?_ GE269.out | refine below_set ?_ GE276.out | refine below_set ?_ GE284.out) | exact HB.out)⟩⟩
                    ·
                     rw [if_neg c63] at H
                     have c63b0 : ((Int.tmod ((rd_T37 l0 x8_1).f0) 3) == 0) = false := beq_eq_false_iff_ne.mpr c63
                     have c63b1 : ((Int.tmod ((rd_T37 l0 x8_1).f0) 3) != 0) = true := bne_iff_ne.mpr c63
                     have H' := Aside0.mk H
                     clear H
                     have p296 : 0 ≤ (x8_1 : Int) := of_decide_eq_true (by first | (with_reducible assumption) | assumption)
                     have q296 : x8_1 < (l0.length : Int) := of_decide_eq_true (by first | (with_reducible assumption) | assumption)
                     obtain ⟨ad296, e296, hx296_0, hx296_1, hx296_2, hx296_3, hx296_4, hx296_5⟩ := at_T37 HR0.out x8_1 p296 q296
                     obtain rfl : ad270 = ad296 := (by injection e296)
                     replace hx296_0 := (HB.out.cell (World.block_lt_of_cell? w _ hx296_0)).trans hx296_0
                     replace hx296_1 := (HB.out.cell (World.block_lt_of_cell? w _ hx296_1)).trans hx296_1
                     replace hx296_2 := (HB.out.cell (World.block_lt_of_cell? w _ hx296_2)).trans hx296_2
                     replace hx296_3 := (HB.out.cell (World.block_lt_of_cell? w _ hx296_3)).trans hx296_3
                     replace hx296_4 := (HB.out.cell (World.block_lt_of_cell? w _ hx296_4)).trans hx296_4
                     replace hx296_5 := (HB.out.cell (World.block_lt_of_cell? w _ hx296_5)).trans hx296_5
                     replace p296 := eq_true p296
                     replace q296 := eq_true q296
                     go_wp2
                     go_meet
                     case rel => exact ⟨_, (false), (by first | rfl | (simp; done) | (simp [*]; done)), H', ⟨by have := HK1.out; have := HJ10.out; have := HJ17.out; have := HJ48.out; have := HK5.out; first | omega | exact Nat.le_refl _⟩, ⟨by (with_reducible repeat (first | apply Kd.V_alloc | apply Kd.V_drewN | apply Kd.V_drew)); exact HO_270000.out⟩, ⟨by (with_reducible repeat (first | apply Kd.V_alloc | apply Kd.V_drewN | apply Kd.V_drew)); exact HO_285000.out⟩, ⟨by (with_reducible repeat (first | apply blk_drewN | apply blk_drew | apply blk_alloc)); exact BK269.out⟩, ⟨by (with_reducible repeat (first | apply blk_drewN | apply blk_drew | apply blk_alloc)); exact BK276.out⟩, ⟨by (with_reducible repeat (first | apply blk_drewN | apply blk_drew | apply blk_alloc)); exact BK284.out⟩, ⟨by repeat (first | (with_reducible first | exact HB.out | apply below_alloc | apply pw_below_drewN | apply below_drew1 | refine below_set ?_ GE269.out | refine below_set ?_ GE276.out | refine below_set ?_ GE284.out) | exact HB.out)⟩⟩
                   ·
                    rw [if_neg c62] at H
                    exact absurd H (by simp)
                  ·
                   rw [if_neg c61] at H
                   exact absurd H (by simp)
                 case rest =>
                  clear HC60
                  try clear c1
                  try clear c2
                  try clear p2
                  try clear q2
                  try clear hx2
                  try clear c3
                  try clear c4
                  try clear c5
                  try clear c6
                  try clear p6
                  try clear c17
                  try clear c19
                  try clear c21
                  try clear p27
                  try clear q27
                  try clear hx27
                  try clear c28
                  try clear p28
                  try clear q28
                  try clear hx28
                  try clear c29
                  try clear p29
                  try clear q29
                  try clear hx29
                  try clear c35
                  try clear c36
                  try clear c38
                  try clear c38b0
                  try clear c48
                  try clear c48b0
                  try clear c48b1
                  try clear c50
                  try clear c51
                  try clear c54
                  try clear c54b0
                  try clear c54b1
                  try clear c55
                  try clear c55b0
                  try clear c56
                  try clear c56b0
                  try clear c57
                  try clear c57b0
                  try clear c58
                  try clear c58b0
                  try clear c61
                  try clear c61b0
                  try clear c62
                  try clear c62b0
                  try clear c63
                  try clear c63b0
                  try clear c63b1
                  try clear c64
                  try clear c64b0
                  try clear c64b1
                  try clear p64
                  try clear hcz29_0
                  try clear hcz29_1
                  try clear hcz29_2
                  try clear hcz29_3
                  try clear hcz30_0
                  try clear hcz30_1
                  try clear hcz30_2
                  try clear hcz30_3
                  try clear hcz37_0
                  try clear hcz37_1
                  try clear hcz37_2
                  try clear hcz37_3
                  try clear hcz52_0
                  try clear hcz52_1
                  try clear hcz52_2
                  try clear hcz52_3
                  try clear hfz29_0
                  try clear hfz29_1
                  try clear hfz29_2
                  try clear hfz29_3
                  try clear hfz30_0
                  try clear hfz30_1
                  try clear hfz30_2
                  try clear hfz30_3
                  try clear hfz37_0
                  try clear hfz37_1
                  try clear hfz37_2
                  try clear hfz37_3
                  try clear hfz52_0
                  try clear hfz52_1
                  try clear hfz52_2
                  try clear hfz52_3
                  try clear hx270_0
                  try clear hx270_1
                  try clear hx270_2
                  try clear hx270_3
                  try clear hx270_4
                  try clear hx270_5
                  try clear hx271_0
                  try clear hx271_1
                  try clear hx271_2
                  try clear hx271_3
                  try clear hx271_4
                  try clear hx271_5
                  try clear hx285_0
                  try clear hx285_1
                  try clear hx285_2
                  try clear hx285_3
                  try clear hx285_4
                  try clear hx285_5
                  try clear hx286_0
                  try clear hx286_1
                  try clear hx286_2
                  try clear hx286_3
                  try clear hx286_4
                  try clear hx286_5
                  try clear hx294_0
                  try clear hx294_1
                  try clear hx294_2
                  try clear hx294_3
                  try clear hx295_0
                  try clear hx295_1
                  try clear hx295_2
                  try clear hx295_3
                  try clear hx296_0
                  try clear hx296_1
                  try clear hx296_2
                  try clear hx296_3
                  try clear hx296_4
                  try clear hx296_5
                  try clear p2
                  try clear p27
                  try clear p271
                  try clear p28
                  try clear p285
                  try clear p286
                  try clear p294
                  try clear p295
                  try clear p296
                  try clear p6
                  try clear q2
                  try clear q27
                  try clear q271
                  try clear q28
                  try clear q285
                  try clear q286
                  try clear q294
                  try clear q295
                  try clear q296
                  obtain ⟨kq, x118_59, rfl, HA, HJ59, HO_270000, HO_285000, BK269, BK276, BK284, HB⟩ := hcut
                  cases kq with
                  | zero => exact absurd HA.out (by simp [clinkerlaw05_NandCounts.j5])
                  | succ kj59 =>
                   have H := HA.out
                   clear HA
                   simp only [clinkerlaw05_NandCounts.j5] at H
                   by_cases c65 : x118_59 = true
                   ·
                    subst c65
                    have H1 : (if x285003_17 = (wrap64 (x270003_1 + x13_48)) then (if x14_5 = 1 then (if x270001_1 = true then (if (x285001_17 != true) = true then (some false) else ((nand_On.f x285000_17 x285001_17 x285002_17 x285003_17).bind fun bt297 => (clinkerlaw05_NandCounts.l0 kj59 l0 true (wrap64 (x8_1 + 1)) bt297.1 bt297.2.1 bt297.2.2.1 bt297.2.2.2))) else (if (x285001_17 != (x13_48 == 0)) = true then (some false) else ((nand_On.f x285000_17 x285001_17 x285002_17 x285003_17).bind fun bt303 => (clinkerlaw05_NandCounts.l0 kj59 l0 true (wrap64 (x8_1 + 1)) bt303.1 bt303.2.1 bt303.2.2.1 bt303.2.2.2)))) else (some false)) else (some false)) = some r := by rw [if_pos rfl] at H; exact H
                    clear H
                    have H := H1
                    clear H1
                    by_cases c66 : x285003_17 = (wrap64 (x270003_1 + x13_48))
                    ·
                     rw [if_pos c66] at H
                     have c66b0 : (x285003_17 == (wrap64 (x270003_1 + x13_48))) = true := beq_iff_eq.mpr c66
                     have c66b1 : (x285003_17 != (wrap64 (x270003_1 + x13_48))) = false := bne_eq_false_iff_eq.mpr c66
                     clear c66
                     by_cases c67 : x14_5 = 1
                     ·
                      rw [if_pos c67] at H
                      have c67b0 : (x14_5 == 1) = true := beq_iff_eq.mpr c67
                      have c67b1 : (x14_5 != 1) = false := bne_eq_false_iff_eq.mpr c67
                      clear c67
                      by_cases c68 : x270001_1 = true
                      ·
                       subst c68
                       have H1 : (if (x285001_17 != true) = true then (some false) else ((nand_On.f x285000_17 x285001_17 x285002_17 x285003_17).bind fun bt297 => (clinkerlaw05_NandCounts.l0 kj59 l0 true (wrap64 (x8_1 + 1)) bt297.1 bt297.2.1 bt297.2.2.1 bt297.2.2.2))) = some r := by rw [if_pos rfl] at H; exact H
                       clear H
                       have H := H1
                       clear H1
                       by_cases c69 : (x285001_17 != true) = true
                       ·
                        rw [if_pos c69] at H
                        have c69b0 : (x285001_17 != true) = true := c69
                        (try (have c69b1 : decide (x285001_17 = true) = false := by simpa using c69))
                        (try (have c69b2 : (x285001_17 == true) = false := by simpa using c69))
                        (try (have c69b3 : ¬ (x285001_17 = true) := by simpa using c69))
                        clear c69
                        obtain rfl := Option.some.inj H
                        have hnb70 := NB284_269.out
                        have hnc70 := NB269_284.out
                        have hnb71 := NB284_276.out
                        have hnc71 := NB276_284.out
                        have hcz72_0 : wc.cell? ⟨gb284, 0, none⟩ = some (.slice Ao53 x285000_17.length co53) := (blk_cell BK284.out 0).trans rfl
                        have hcz72_1 : wc.cell? ⟨gb284, 1, none⟩ = some (.bool x285001_17) := (blk_cell BK284.out 1).trans rfl
                        have hcz72_2 : wc.cell? ⟨gb284, 2, none⟩ = some (.bool x285002_17) := (blk_cell BK284.out 2).trans rfl
                        have hcz72_3 : wc.cell? ⟨gb284, 3, none⟩ = some (.int .i64 x285003_17) := (blk_cell BK284.out 3).trans rfl
                        have hfz72_0 := blk_frozen BK284.out 0
                        have hfz72_1 := blk_frozen BK284.out 1
                        have hfz72_2 := blk_frozen BK284.out 2
                        have hfz72_3 := blk_frozen BK284.out 3
                        have hnb73 := NB269_276.out
                        have hnc73 := NB276_269.out
                        have hcz74_0 : wc.cell? ⟨gb269, 0, none⟩ = some (.slice Ao31 x270000_1.length co31) := (blk_cell BK269.out 0).trans rfl
                        have hcz74_1 : wc.cell? ⟨gb269, 1, none⟩ = some (.bool true) := (blk_cell BK269.out 1).trans rfl
                        have hcz74_2 : wc.cell? ⟨gb269, 2, none⟩ = some (.bool x270002_1) := (blk_cell BK269.out 2).trans rfl
                        have hcz74_3 : wc.cell? ⟨gb269, 3, none⟩ = some (.int .i64 x270003_1) := (blk_cell BK269.out 3).trans rfl
                        have hfz74_0 := blk_frozen BK269.out 0
                        have hfz74_1 := blk_frozen BK269.out 1
                        have hfz74_2 := blk_frozen BK269.out 2
                        have hfz74_3 := blk_frozen BK269.out 3
                        go_wp2
                        go_ret
                        exact ⟨by first | rfl | (simp [errW_none, errW_some] <;> rfl) | (simp [*, errW_none, errW_some] <;> rfl), by repeat (first | (with_reducible first | exact HB.out | apply below_alloc | apply pw_below_drewN | apply below_drew1 | refine below_set ?_ GE269.out | refine below_set ?_ GE276.out | refine below_set ?_ GE284.out) | exact HB.out)⟩
                       ·
                        rw [if_neg c69] at H
                        have c69b0 : (x285001_17 != true) = false := by simpa using c69
                        (try (have c69b1 : decide (x285001_17 = true) = true := by simpa using c69))
                        (try (have c69b2 : (x285001_17 == true) = true := by simpa using c69))
                        clear c69
                        replace H := Option.bind_eq_some_iff.mp H
                        obtain ⟨⟨t297, t300, t301, t302⟩, A750, H⟩ := H
                        replace H : (clinkerlaw05_NandCounts.l0 kj59 l0 true (wrap64 (x8_1 + 1)) t297 t300 t301 t302) = some r := H
                        have A75 := Aside0.mk A750
                        clear A750
                        have H' := Aside0.mk H
                        clear H
                        have hnb76 := NB284_269.out
                        have hnc76 := NB269_284.out
                        have hnb77 := NB284_276.out
                        have hnc77 := NB276_284.out
                        have hcz78_0 : wc.cell? ⟨gb284, 0, none⟩ = some (.slice Ao53 x285000_17.length co53) := (blk_cell BK284.out 0).trans rfl
                        have hcz78_1 : wc.cell? ⟨gb284, 1, none⟩ = some (.bool x285001_17) := (blk_cell BK284.out 1).trans rfl
                        have hcz78_2 : wc.cell? ⟨gb284, 2, none⟩ = some (.bool x285002_17) := (blk_cell BK284.out 2).trans rfl
                        have hcz78_3 : wc.cell? ⟨gb284, 3, none⟩ = some (.int .i64 x285003_17) := (blk_cell BK284.out 3).trans rfl
                        have hfz78_0 := blk_frozen BK284.out 0
                        have hfz78_1 := blk_frozen BK284.out 1
                        have hfz78_2 := blk_frozen BK284.out 2
                        have hfz78_3 := blk_frozen BK284.out 3
                        have hnb79 := NB269_276.out
                        have hnc79 := NB276_269.out
                        have hcz80_0 : wc.cell? ⟨gb269, 0, none⟩ = some (.slice Ao31 x270000_1.length co31) := (blk_cell BK269.out 0).trans rfl
                        have hcz80_1 : wc.cell? ⟨gb269, 1, none⟩ = some (.bool true) := (blk_cell BK269.out 1).trans rfl
                        have hcz80_2 : wc.cell? ⟨gb269, 2, none⟩ = some (.bool x270002_1) := (blk_cell BK269.out 2).trans rfl
                        have hcz80_3 : wc.cell? ⟨gb269, 3, none⟩ = some (.int .i64 x270003_1) := (blk_cell BK269.out 3).trans rfl
                        have hfz80_0 := blk_frozen BK269.out 0
                        have hfz80_1 := blk_frozen BK269.out 1
                        have hfz80_2 := blk_frozen BK269.out 2
                        have hfz80_3 := blk_frozen BK269.out 3
                        go_wp2_with (first | ((with_reducible refine gate_callee (f := 22) rfl ?_); refine goesL_ (some 143) rfl rfl Try.func22 (by kernel_rfl) rfl #[.agg #[.slice Ao53 x285000_17.length co53, .bool x285001_17, .bool x285002_17, .int .i64 x285003_17]] rfl (by (try simp only [List.map_toArray, List.map_cons, List.map_nil]); first | done | rfl | (simp only [List.length_drop, List.length_take]; rfl)) ?_; (with_reducible refine (nand_On.calls (fun k_ => (k_ ≠ gb269 ∧ (k_ ≠ gb276 ∧ k_ ≠ gb284))) _ _ x285000_17 x285001_17 x285002_17 x285003_17 t297 t300 t301 t302 _ ?side1 A75.out).mono ?_); (case side1 => exact HO_285000.out); rintro e w81 ⟨v298, rfl, ho0, hb⟩; refine ⟨_, rfl, ?_⟩; have n0_ := Aside0.mk (Kd.V_below (by (with_reducible repeat (first | apply Kd.V_alloc | apply Kd.V_drewN | apply Kd.V_drew)); exact HO_270000.out) hb); have n1_ := Aside0.mk (Kd.V_below (by (with_reducible repeat (first | apply Kd.V_alloc | apply Kd.V_drewN | apply Kd.V_drew)); exact HO_285000.out) hb); have n2_ := Aside0.mk (Kd.V_lower (Kd.V_mono (ok' := fun k_ => k_ ≠ gb269 ∧ k_ ≠ gb276 ∧ k_ ≠ gb284) ho0 (fun k_ hk_ => ⟨Or.elim hk_ (fun hs_ => hs_.1) (fun hn_ => (Kd.freshB (g := gb269) (o := .cells #[.slice Ao31 x270000_1.length co31, .bool true, .bool x270002_1, .int .i64 x270003_1] 27 (0, 0)) (by (with_reducible repeat (first | apply blk_drewN | apply blk_drew | apply blk_alloc)); exact BK269.out) k_ hn_)), Or.elim hk_ (fun hs_ => hs_.2.1) (fun hn_ => (Kd.freshB (g := gb276) (o := .cells #[.int .i64 t272, .string t273, .string t274, .int .i64 t275] 41 (0, 0)) (by (with_reducible repeat (first | apply blk_drewN | apply blk_drew | apply blk_alloc)); exact BK276.out) k_ hn_)), Or.elim hk_ (fun hs_ => hs_.2.2) (fun hn_ => (Kd.freshB (g := gb284) (o := .cells #[.slice Ao53 x285000_17.length co53, .bool x285001_17, .bool x285002_17, .int .i64 x285003_17] 27 (0, 0)) (by (with_reducible repeat (first | apply blk_drewN | apply blk_drew | apply blk_alloc)); exact BK284.out) k_ hn_))⟩)) (below_size (by repeat (first | (with_reducible first | exact HB.out | apply below_alloc | apply pw_below_drewN | apply below_drew1 | refine below_set ?_ GE269.out | refine below_set ?_ GE276.out | refine below_set ?_ GE284.out) | exact HB.out)))); have n3_ := Aside0.mk (blk_below (g := gb269) (o := .cells #[.slice Ao31 x270000_1.length co31, .bool true, .bool x270002_1, .int .i64 x270003_1] 27 (0, 0)) (by (with_reducible repeat (first | apply blk_drewN | apply blk_drew | apply blk_alloc)); exact BK269.out) hb); have n4_ := Aside0.mk (blk_below (g := gb276) (o := .cells #[.int .i64 t272, .string t273, .string t274, .int .i64 t275] 41 (0, 0)) (by (with_reducible repeat (first | apply blk_drewN | apply blk_drew | apply blk_alloc)); exact BK276.out) hb); have n5_ := Aside0.mk (blk_below (g := gb284) (o := .cells #[.slice Ao53 x285000_17.length co53, .bool x285001_17, .bool x285002_17, .int .i64 x285003_17] 27 (0, 0)) (by (with_reducible repeat (first | apply blk_drewN | apply blk_drew | apply blk_alloc)); exact BK284.out) hb); have n6_ := Aside0.mk (below_step (by repeat (first | (with_reducible first | exact HB.out | apply below_alloc | apply pw_below_drewN | apply below_drew1 | refine below_set ?_ GE269.out | refine below_set ?_ GE276.out | refine below_set ?_ GE284.out) | exact HB.out)) hb); clear HO_270000; clear HO_285000; clear BK269; clear BK276; clear BK284; clear HB; have HO_270000 := n0_; have HO_285000 := n1_; have HO299 := n2_; have BK269 := n3_; have BK276 := n4_; have BK284 := n5_; have HB := n6_; clear n0_ n1_ n2_ n3_ n4_ n5_ n6_; (try clear hb); (try clear hb2); (try clear hk); (try clear hi); (try clear ho0); obtain ⟨Ao82, co82, eo82⟩ := Kd.V_slice HO299.out; subst eo82; have hcz83_0 : w81.cell? ⟨gb269, 0, none⟩ = some (.slice Ao31 x270000_1.length co31) := (blk_cell BK269.out 0).trans rfl; have hcz83_1 : w81.cell? ⟨gb269, 1, none⟩ = some (.bool true) := (blk_cell BK269.out 1).trans rfl; have hcz83_2 : w81.cell? ⟨gb269, 2, none⟩ = some (.bool x270002_1) := (blk_cell BK269.out 2).trans rfl; have hcz83_3 : w81.cell? ⟨gb269, 3, none⟩ = some (.int .i64 x270003_1) := (blk_cell BK269.out 3).trans rfl; have hfz83_0 := blk_frozen BK269.out 0; have hfz83_1 := blk_frozen BK269.out 1; have hfz83_2 := blk_frozen BK269.out 2; have hfz83_3 := blk_frozen BK269.out 3))
                        go_roundg kj59
                        case measure => have := HK1.out; have := HJ10.out; have := HJ17.out; have := HJ48.out; have := HK5.out; have := HJ59.out; omega
                        case rel => exact ⟨(wrap64 (x8_1 + 1)), (t297), (t300), (t301), (t302), (.slice Ao82 t297.length co82), (by first | rfl | (simp; done) | (simp [*]; done)), H', ⟨by have := HK1.out; have := HJ10.out; have := HJ17.out; have := HJ48.out; have := HK5.out; have := HJ59.out; omega⟩, ⟨by (with_reducible repeat (first | apply Kd.V_alloc | apply Kd.V_drewN | apply Kd.V_drew)); exact Kd.V_mono (Kd.V_far (p := ⟨gb269, 3, none⟩) (Kd.V_far (p := ⟨gb269, 2, none⟩) (Kd.V_far (p := ⟨gb269, 1, none⟩) (Kd.V_far (p := ⟨gb269, 0, none⟩) (Kd.V_mono HO299.out (fun k_ hk => (⟨hk, hk.1⟩ : _ ∧ k_ ≠ gb269))) (fun _ hk => hk.2) _) (fun _ hk => hk.2) (.bool t300)) (fun _ hk => hk.2) (.bool t301)) (fun _ hk => hk.2) _) (fun _ hk => hk.1.1)⟩, ⟨by (with_reducible repeat (first | apply blk_drewN | apply blk_drew | apply blk_alloc)); refine blk_put (cs := #[.slice Ao82 t297.length co82, .bool t300, .bool t301, .int .i64 x270003_1]) ?_ 3 _ rfl; (with_reducible repeat (first | apply blk_drewN | apply blk_drew | apply blk_alloc)); refine blk_put (cs := #[.slice Ao82 t297.length co82, .bool t300, .bool x270002_1, .int .i64 x270003_1]) ?_ 2 _ rfl; (with_reducible repeat (first | apply blk_drewN | apply blk_drew | apply blk_alloc)); refine blk_put (cs := #[.slice Ao82 t297.length co82, .bool true, .bool x270002_1, .int .i64 x270003_1]) ?_ 1 _ rfl; (with_reducible repeat (first | apply blk_drewN | apply blk_drew | apply blk_alloc)); refine blk_put (cs := #[.slice Ao31 x270000_1.length co31, .bool true, .bool x270002_1, .int .i64 x270003_1]) ?_ 0 _ rfl; (with_reducible repeat (first | apply blk_drewN | apply blk_drew | apply blk_alloc)); exact BK269.out⟩, ⟨by repeat (first | (with_reducible first | exact HB.out | apply below_alloc | apply pw_below_drewN | apply below_drew1 | refine below_set ?_ GE269.out | refine below_set ?_ GE276.out | refine below_set ?_ GE284.out) | exact HB.out)⟩⟩
                      ·
                       replace c68 := Bool.eq_false_iff.mpr c68
                       subst c68
                       have H1 : (if (x285001_17 != (x13_48 == 0)) = true then (some false) else ((nand_On.f x285000_17 x285001_17 x285002_17 x285003_17).bind fun bt303 => (clinkerlaw05_NandCounts.l0 kj59 l0 true (wrap64 (x8_1 + 1)) bt303.1 bt303.2.1 bt303.2.2.1 bt303.2.2.2))) = some r := by rw [if_neg (show ¬ (false = true) by decide)] at H; exact H
                       clear H
                       have H := H1
                       clear H1
                       by_cases c84 : (x285001_17 != (x13_48 == 0)) = true
                       ·
                        rw [if_pos c84] at H
                        have c84b0 : (x285001_17 != (x13_48 == 0)) = true := c84
                        (try (have c84b1 : decide (x285001_17 = (x13_48 == 0)) = false := by simpa using c84))
                        (try (have c84b2 : (x285001_17 == (x13_48 == 0)) = false := by simpa using c84))
                        (try (have c84b3 : ¬ (x285001_17 = (x13_48 == 0)) := by simpa using c84))
                        clear c84
                        obtain rfl := Option.some.inj H
                        have hnb85 := NB284_269.out
                        have hnc85 := NB269_284.out
                        have hnb86 := NB284_276.out
                        have hnc86 := NB276_284.out
                        have hcz87_0 : wc.cell? ⟨gb284, 0, none⟩ = some (.slice Ao53 x285000_17.length co53) := (blk_cell BK284.out 0).trans rfl
                        have hcz87_1 : wc.cell? ⟨gb284, 1, none⟩ = some (.bool x285001_17) := (blk_cell BK284.out 1).trans rfl
                        have hcz87_2 : wc.cell? ⟨gb284, 2, none⟩ = some (.bool x285002_17) := (blk_cell BK284.out 2).trans rfl
                        have hcz87_3 : wc.cell? ⟨gb284, 3, none⟩ = some (.int .i64 x285003_17) := (blk_cell BK284.out 3).trans rfl
                        have hfz87_0 := blk_frozen BK284.out 0
                        have hfz87_1 := blk_frozen BK284.out 1
                        have hfz87_2 := blk_frozen BK284.out 2
                        have hfz87_3 := blk_frozen BK284.out 3
                        have hnb88 := NB269_276.out
                        have hnc88 := NB276_269.out
                        have hcz89_0 : wc.cell? ⟨gb269, 0, none⟩ = some (.slice Ao31 x270000_1.length co31) := (blk_cell BK269.out 0).trans rfl
                        have hcz89_1 : wc.cell? ⟨gb269, 1, none⟩ = some (.bool false) := (blk_cell BK269.out 1).trans rfl
                        have hcz89_2 : wc.cell? ⟨gb269, 2, none⟩ = some (.bool x270002_1) := (blk_cell BK269.out 2).trans rfl
                        have hcz89_3 : wc.cell? ⟨gb269, 3, none⟩ = some (.int .i64 x270003_1) := (blk_cell BK269.out 3).trans rfl
                        have hfz89_0 := blk_frozen BK269.out 0
                        have hfz89_1 := blk_frozen BK269.out 1
                        have hfz89_2 := blk_frozen BK269.out 2
                        have hfz89_3 := blk_frozen BK269.out 3
                        go_wp2
                        go_ret
                        exact ⟨by first | rfl | (simp [errW_none, errW_some] <;> rfl) | (simp [*, errW_none, errW_some] <;> rfl), by repeat (first | (with_reducible first | exact HB.out | apply below_alloc | apply pw_below_drewN | apply below_drew1 | refine below_set ?_ GE269.out | refine below_set ?_ GE276.out | refine below_set ?_ GE284.out) | exact HB.out)⟩
                       ·
                        rw [if_neg c84] at H
                        have c84b0 : (x285001_17 != (x13_48 == 0)) = false := by simpa using c84
                        (try (have c84b1 : decide (x285001_17 = (x13_48 == 0)) = true := by simpa using c84))
                        (try (have c84b2 : (x285001_17 == (x13_48 == 0)) = true := by simpa using c84))
                        clear c84
                        replace H := Option.bind_eq_some_iff.mp H
                        obtain ⟨⟨t303, t306, t307, t308⟩, A900, H⟩ := H
                        replace H : (clinkerlaw05_NandCounts.l0 kj59 l0 true (wrap64 (x8_1 + 1)) t303 t306 t307 t308) = some r := H
                        have A90 := Aside0.mk A900
                        clear A900
                        have H' := Aside0.mk H
                        clear H
                        have hnb91 := NB284_269.out
                        have hnc91 := NB269_284.out
                        have hnb92 := NB284_276.out
                        have hnc92 := NB276_284.out
                        have hcz93_0 : wc.cell? ⟨gb284, 0, none⟩ = some (.slice Ao53 x285000_17.length co53) := (blk_cell BK284.out 0).trans rfl
                        have hcz93_1 : wc.cell? ⟨gb284, 1, none⟩ = some (.bool x285001_17) := (blk_cell BK284.out 1).trans rfl
                        have hcz93_2 : wc.cell? ⟨gb284, 2, none⟩ = some (.bool x285002_17) := (blk_cell BK284.out 2).trans rfl
                        have hcz93_3 : wc.cell? ⟨gb284, 3, none⟩ = some (.int .i64 x285003_17) := (blk_cell BK284.out 3).trans rfl
                        have hfz93_0 := blk_frozen BK284.out 0
                        have hfz93_1 := blk_frozen BK284.out 1
                        have hfz93_2 := blk_frozen BK284.out 2
                        have hfz93_3 := blk_frozen BK284.out 3
                        have hnb94 := NB269_276.out
                        have hnc94 := NB276_269.out
                        have hcz95_0 : wc.cell? ⟨gb269, 0, none⟩ = some (.slice Ao31 x270000_1.length co31) := (blk_cell BK269.out 0).trans rfl
                        have hcz95_1 : wc.cell? ⟨gb269, 1, none⟩ = some (.bool false) := (blk_cell BK269.out 1).trans rfl
                        have hcz95_2 : wc.cell? ⟨gb269, 2, none⟩ = some (.bool x270002_1) := (blk_cell BK269.out 2).trans rfl
                        have hcz95_3 : wc.cell? ⟨gb269, 3, none⟩ = some (.int .i64 x270003_1) := (blk_cell BK269.out 3).trans rfl
                        have hfz95_0 := blk_frozen BK269.out 0
                        have hfz95_1 := blk_frozen BK269.out 1
                        have hfz95_2 := blk_frozen BK269.out 2
                        have hfz95_3 := blk_frozen BK269.out 3
                        go_wp2_with (first | ((with_reducible refine gate_callee (f := 22) rfl ?_); refine goesL_ (some 143) rfl rfl Try.func22 (by kernel_rfl) rfl #[.agg #[.slice Ao53 x285000_17.length co53, .bool x285001_17, .bool x285002_17, .int .i64 x285003_17]] rfl (by (try simp only [List.map_toArray, List.map_cons, List.map_nil]); first | done | rfl | (simp only [List.length_drop, List.length_take]; rfl)) ?_; (with_reducible refine (nand_On.calls (fun k_ => (k_ ≠ gb269 ∧ (k_ ≠ gb276 ∧ k_ ≠ gb284))) _ _ x285000_17 x285001_17 x285002_17 x285003_17 t303 t306 t307 t308 _ ?side1 A90.out).mono ?_); (case side1 => exact HO_285000.out); rintro e w96 ⟨v304, rfl, ho0, hb⟩; refine ⟨_, rfl, ?_⟩; have n0_ := Aside0.mk (Kd.V_below (by (with_reducible repeat (first | apply Kd.V_alloc | apply Kd.V_drewN | apply Kd.V_drew)); exact HO_270000.out) hb); have n1_ := Aside0.mk (Kd.V_below (by (with_reducible repeat (first | apply Kd.V_alloc | apply Kd.V_drewN | apply Kd.V_drew)); exact HO_285000.out) hb); have n2_ := Aside0.mk (Kd.V_lower (Kd.V_mono (ok' := fun k_ => k_ ≠ gb269 ∧ k_ ≠ gb276 ∧ k_ ≠ gb284) ho0 (fun k_ hk_ => ⟨Or.elim hk_ (fun hs_ => hs_.1) (fun hn_ => (Kd.freshB (g := gb269) (o := .cells #[.slice Ao31 x270000_1.length co31, .bool false, .bool x270002_1, .int .i64 x270003_1] 27 (0, 0)) (by (with_reducible repeat (first | apply blk_drewN | apply blk_drew | apply blk_alloc)); exact BK269.out) k_ hn_)), Or.elim hk_ (fun hs_ => hs_.2.1) (fun hn_ => (Kd.freshB (g := gb276) (o := .cells #[.int .i64 t272, .string t273, .string t274, .int .i64 t275] 41 (0, 0)) (by (with_reducible repeat (first | apply blk_drewN | apply blk_drew | apply blk_alloc)); exact BK276.out) k_ hn_)), Or.elim hk_ (fun hs_ => hs_.2.2) (fun hn_ => (Kd.freshB (g := gb284) (o := .cells #[.slice Ao53 x285000_17.length co53, .bool x285001_17, .bool x285002_17, .int .i64 x285003_17] 27 (0, 0)) (by (with_reducible repeat (first | apply blk_drewN | apply blk_drew | apply blk_alloc)); exact BK284.out) k_ hn_))⟩)) (below_size (by repeat (first | (with_reducible first | exact HB.out | apply below_alloc | apply pw_below_drewN | apply below_drew1 | refine below_set ?_ GE269.out | refine below_set ?_ GE276.out | refine below_set ?_ GE284.out) | exact HB.out)))); have n3_ := Aside0.mk (blk_below (g := gb269) (o := .cells #[.slice Ao31 x270000_1.length co31, .bool false, .bool x270002_1, .int .i64 x270003_1] 27 (0, 0)) (by (with_reducible repeat (first | apply blk_drewN | apply blk_drew | apply blk_alloc)); exact BK269.out) hb); have n4_ := Aside0.mk (blk_below (g := gb276) (o := .cells #[.int .i64 t272, .string t273, .string t274, .int .i64 t275] 41 (0, 0)) (by (with_reducible repeat (first | apply blk_drewN | apply blk_drew | apply blk_alloc)); exact BK276.out) hb); have n5_ := Aside0.mk (blk_below (g := gb284) (o := .cells #[.slice Ao53 x285000_17.length co53, .bool x285001_17, .bool x285002_17, .int .i64 x285003_17] 27 (0, 0)) (by (with_reducible repeat (first | apply blk_drewN | apply blk_drew | apply blk_alloc)); exact BK284.out) hb); have n6_ := Aside0.mk (below_step (by repeat (first | (with_reducible first | exact HB.out | apply below_alloc | apply pw_below_drewN | apply below_drew1 | refine below_set ?_ GE269.out | refine below_set ?_ GE276.out | refine below_set ?_ GE284.out) | exact HB.out)) hb); clear HO_270000; clear HO_285000; clear BK269; clear BK276; clear BK284; clear HB; have HO_270000 := n0_; have HO_285000 := n1_; have HO305 := n2_; have BK269 := n3_; have BK276 := n4_; have BK284 := n5_; have HB := n6_; clear n0_ n1_ n2_ n3_ n4_ n5_ n6_; (try clear hb); (try clear hb2); (try clear hk); (try clear hi); (try clear ho0); obtain ⟨Ao97, co97, eo97⟩ := Kd.V_slice HO305.out; subst eo97; have hcz98_0 : w96.cell? ⟨gb269, 0, none⟩ = some (.slice Ao31 x270000_1.length co31) := (blk_cell BK269.out 0).trans rfl; have hcz98_1 : w96.cell? ⟨gb269, 1, none⟩ = some (.bool false) := (blk_cell BK269.out 1).trans rfl; have hcz98_2 : w96.cell? ⟨gb269, 2, none⟩ = some (.bool x270002_1) := (blk_cell BK269.out 2).trans rfl; have hcz98_3 : w96.cell? ⟨gb269, 3, none⟩ = some (.int .i64 x270003_1) := (blk_cell BK269.out 3).trans rfl; have hfz98_0 := blk_frozen BK269.out 0; have hfz98_1 := blk_frozen BK269.out 1; have hfz98_2 := blk_frozen BK269.out 2; have hfz98_3 := blk_frozen BK269.out 3))
                        go_roundg kj59
                        case measure => have := HK1.out; have := HJ10.out; have := HJ17.out; have := HJ48.out; have := HK5.out; have := HJ59.out; omega
                        case rel => exact ⟨(wrap64 (x8_1 + 1)), (t303), (t306), (t307), (t308), (.slice Ao97 t303.length co97), (by first | rfl | (simp; done) | (simp [*]; done)), H', ⟨by have := HK1.out; have := HJ10.out; have := HJ17.out; have := HJ48.out; have := HK5.out; have := HJ59.out; omega⟩, ⟨by (with_reducible repeat (first | apply Kd.V_alloc | apply Kd.V_drewN | apply Kd.V_drew)); exact Kd.V_mono (Kd.V_far (p := ⟨gb269, 3, none⟩) (Kd.V_far (p := ⟨gb269, 2, none⟩) (Kd.V_far (p := ⟨gb269, 1, none⟩) (Kd.V_far (p := ⟨gb269, 0, none⟩) (Kd.V_mono HO305.out (fun k_ hk => (⟨hk, hk.1⟩ : _ ∧ k_ ≠ gb269))) (fun _ hk => hk.2) _) (fun _ hk => hk.2) (.bool t306)) (fun _ hk => hk.2) (.bool t307)) (fun _ hk => hk.2) _) (fun _ hk => hk.1.1)⟩, ⟨by (with_reducible repeat (first | apply blk_drewN | apply blk_drew | apply blk_alloc)); refine blk_put (cs := #[.slice Ao97 t303.length co97, .bool t306, .bool t307, .int .i64 x270003_1]) ?_ 3 _ rfl; (with_reducible repeat (first | apply blk_drewN | apply blk_drew | apply blk_alloc)); refine blk_put (cs := #[.slice Ao97 t303.length co97, .bool t306, .bool x270002_1, .int .i64 x270003_1]) ?_ 2 _ rfl; (with_reducible repeat (first | apply blk_drewN | apply blk_drew | apply blk_alloc)); refine blk_put (cs := #[.slice Ao97 t303.length co97, .bool false, .bool x270002_1, .int .i64 x270003_1]) ?_ 1 _ rfl; (with_reducible repeat (first | apply blk_drewN | apply blk_drew | apply blk_alloc)); refine blk_put (cs := #[.slice Ao31 x270000_1.length co31, .bool false, .bool x270002_1, .int .i64 x270003_1]) ?_ 0 _ rfl; (with_reducible repeat (first | apply blk_drewN | apply blk_drew | apply blk_alloc)); exact BK269.out⟩, ⟨by repeat (first | (with_reducible first | exact HB.out | apply below_alloc | apply pw_below_drewN | apply below_drew1 | refine below_set ?_ GE269.out | refine below_set ?_ GE276.out | refine below_set ?_ GE284.out) | exact HB.out)⟩⟩
                     ·
                      rw [if_neg c67] at H
                      have c67b0 : (x14_5 == 1) = false := beq_eq_false_iff_ne.mpr c67
                      have c67b1 : (x14_5 != 1) = true := bne_iff_ne.mpr c67
                      exact absurd (H.trans (congrArg some hrt.out)) (by simp)
                    ·
                     rw [if_neg c66] at H
                     have c66b0 : (x285003_17 == (wrap64 (x270003_1 + x13_48))) = false := beq_eq_false_iff_ne.mpr c66
                     have c66b1 : (x285003_17 != (wrap64 (x270003_1 + x13_48))) = true := bne_iff_ne.mpr c66
                     exact absurd (H.trans (congrArg some hrt.out)) (by simp)
                   ·
                    replace c65 := Bool.eq_false_iff.mpr c65
                    subst c65
                    have H1 : (if x285003_17 = (wrap64 (x270003_1 + x13_48)) then (if x14_5 = 0 then (if x270001_1 = true then (if (x285001_17 != true) = true then (some false) else ((nand_On.f x285000_17 x285001_17 x285002_17 x285003_17).bind fun bt309 => (clinkerlaw05_NandCounts.l0 kj59 l0 true (wrap64 (x8_1 + 1)) bt309.1 bt309.2.1 bt309.2.2.1 bt309.2.2.2))) else (if (x285001_17 != (x13_48 == 0)) = true then (some false) else ((nand_On.f x285000_17 x285001_17 x285002_17 x285003_17).bind fun bt315 => (clinkerlaw05_NandCounts.l0 kj59 l0 true (wrap64 (x8_1 + 1)) bt315.1 bt315.2.1 bt315.2.2.1 bt315.2.2.2)))) else (some false)) else (some false)) = some r := by rw [if_neg (show ¬ (false = true) by decide)] at H; exact H
                    clear H
                    have H := H1
                    clear H1
                    by_cases c109 : x285003_17 = (wrap64 (x270003_1 + x13_48))
                    ·
                     rw [if_pos c109] at H
                     have c109b0 : (x285003_17 == (wrap64 (x270003_1 + x13_48))) = true := beq_iff_eq.mpr c109
                     have c109b1 : (x285003_17 != (wrap64 (x270003_1 + x13_48))) = false := bne_eq_false_iff_eq.mpr c109
                     clear c109
                     by_cases c110 : x14_5 = 0
                     ·
                      rw [if_pos c110] at H
                      have c110b0 : (x14_5 == 0) = true := beq_iff_eq.mpr c110
                      have c110b1 : (x14_5 != 0) = false := bne_eq_false_iff_eq.mpr c110
                      clear c110
                      by_cases c111 : x270001_1 = true
                      ·
                       subst c111
                       have H1 : (if (x285001_17 != true) = true then (some false) else ((nand_On.f x285000_17 x285001_17 x285002_17 x285003_17).bind fun bt309 => (clinkerlaw05_NandCounts.l0 kj59 l0 true (wrap64 (x8_1 + 1)) bt309.1 bt309.2.1 bt309.2.2.1 bt309.2.2.2))) = some r := by rw [if_pos rfl] at H; exact H
                       clear H
                       have H := H1
                       clear H1
                       by_cases c112 : (x285001_17 != true) = true
                       ·
                        rw [if_pos c112] at H
                        have c112b0 : (x285001_17 != true) = true := c112
                        (try (have c112b1 : decide (x285001_17 = true) = false := by simpa using c112))
                        (try (have c112b2 : (x285001_17 == true) = false := by simpa using c112))
                        (try (have c112b3 : ¬ (x285001_17 = true) := by simpa using c112))
                        clear c112
                        obtain rfl := Option.some.inj H
                        have hnb113 := NB284_269.out
                        have hnc113 := NB269_284.out
                        have hnb114 := NB284_276.out
                        have hnc114 := NB276_284.out
                        have hcz115_0 : wc.cell? ⟨gb284, 0, none⟩ = some (.slice Ao53 x285000_17.length co53) := (blk_cell BK284.out 0).trans rfl
                        have hcz115_1 : wc.cell? ⟨gb284, 1, none⟩ = some (.bool x285001_17) := (blk_cell BK284.out 1).trans rfl
                        have hcz115_2 : wc.cell? ⟨gb284, 2, none⟩ = some (.bool x285002_17) := (blk_cell BK284.out 2).trans rfl
                        have hcz115_3 : wc.cell? ⟨gb284, 3, none⟩ = some (.int .i64 x285003_17) := (blk_cell BK284.out 3).trans rfl
                        have hfz115_0 := blk_frozen BK284.out 0
                        have hfz115_1 := blk_frozen BK284.out 1
                        have hfz115_2 := blk_frozen BK284.out 2
                        have hfz115_3 := blk_frozen BK284.out 3
                        have hnb116 := NB269_276.out
                        have hnc116 := NB276_269.out
                        have hcz117_0 : wc.cell? ⟨gb269, 0, none⟩ = some (.slice Ao31 x270000_1.length co31) := (blk_cell BK269.out 0).trans rfl
                        have hcz117_1 : wc.cell? ⟨gb269, 1, none⟩ = some (.bool true) := (blk_cell BK269.out 1).trans rfl
                        have hcz117_2 : wc.cell? ⟨gb269, 2, none⟩ = some (.bool x270002_1) := (blk_cell BK269.out 2).trans rfl
                        have hcz117_3 : wc.cell? ⟨gb269, 3, none⟩ = some (.int .i64 x270003_1) := (blk_cell BK269.out 3).trans rfl
                        have hfz117_0 := blk_frozen BK269.out 0
                        have hfz117_1 := blk_frozen BK269.out 1
                        have hfz117_2 := blk_frozen BK269.out 2
                        have hfz117_3 := blk_frozen BK269.out 3
                        go_wp2
                        go_ret
                        exact ⟨by first | rfl | (simp [errW_none, errW_some] <;> rfl) | (simp [*, errW_none, errW_some] <;> rfl), by repeat (first | (with_reducible first | exact HB.out | apply below_alloc | apply pw_below_drewN | apply below_drew1 | refine below_set ?_ GE269.out | refine below_set ?_ GE276.out | refine below_set ?_ GE284.out) | exact HB.out)⟩
                       ·
                        rw [if_neg c112] at H
                        have c112b0 : (x285001_17 != true) = false := by simpa using c112
                        (try (have c112b1 : decide (x285001_17 = true) = true := by simpa using c112))
                        (try (have c112b2 : (x285001_17 == true) = true := by simpa using c112))
                        clear c112
                        replace H := Option.bind_eq_some_iff.mp H
                        obtain ⟨⟨t309, t312, t313, t314⟩, A1180, H⟩ := H
                        replace H : (clinkerlaw05_NandCounts.l0 kj59 l0 true (wrap64 (x8_1 + 1)) t309 t312 t313 t314) = some r := H
                        have A118 := Aside0.mk A1180
                        clear A1180
                        have H' := Aside0.mk H
                        clear H
                        have hnb119 := NB284_269.out
                        have hnc119 := NB269_284.out
                        have hnb120 := NB284_276.out
                        have hnc120 := NB276_284.out
                        have hcz121_0 : wc.cell? ⟨gb284, 0, none⟩ = some (.slice Ao53 x285000_17.length co53) := (blk_cell BK284.out 0).trans rfl
                        have hcz121_1 : wc.cell? ⟨gb284, 1, none⟩ = some (.bool x285001_17) := (blk_cell BK284.out 1).trans rfl
                        have hcz121_2 : wc.cell? ⟨gb284, 2, none⟩ = some (.bool x285002_17) := (blk_cell BK284.out 2).trans rfl
                        have hcz121_3 : wc.cell? ⟨gb284, 3, none⟩ = some (.int .i64 x285003_17) := (blk_cell BK284.out 3).trans rfl
                        have hfz121_0 := blk_frozen BK284.out 0
                        have hfz121_1 := blk_frozen BK284.out 1
                        have hfz121_2 := blk_frozen BK284.out 2
                        have hfz121_3 := blk_frozen BK284.out 3
                        have hnb122 := NB269_276.out
                        have hnc122 := NB276_269.out
                        have hcz123_0 : wc.cell? ⟨gb269, 0, none⟩ = some (.slice Ao31 x270000_1.length co31) := (blk_cell BK269.out 0).trans rfl
                        have hcz123_1 : wc.cell? ⟨gb269, 1, none⟩ = some (.bool true) := (blk_cell BK269.out 1).trans rfl
                        have hcz123_2 : wc.cell? ⟨gb269, 2, none⟩ = some (.bool x270002_1) := (blk_cell BK269.out 2).trans rfl
                        have hcz123_3 : wc.cell? ⟨gb269, 3, none⟩ = some (.int .i64 x270003_1) := (blk_cell BK269.out 3).trans rfl
                        have hfz123_0 := blk_frozen BK269.out 0
                        have hfz123_1 := blk_frozen BK269.out 1
                        have hfz123_2 := blk_frozen BK269.out 2
                        have hfz123_3 := blk_frozen BK269.out 3
                        go_wp2_with (first | ((with_reducible refine gate_callee (f := 22) rfl ?_); refine goesL_ (some 143) rfl rfl Try.func22 (by kernel_rfl) rfl #[.agg #[.slice Ao53 x285000_17.length co53, .bool x285001_17, .bool x285002_17, .int .i64 x285003_17]] rfl (by (try simp only [List.map_toArray, List.map_cons, List.map_nil]); first | done | rfl | (simp only [List.length_drop, List.length_take]; rfl)) ?_; (with_reducible refine (nand_On.calls (fun k_ => (k_ ≠ gb269 ∧ (k_ ≠ gb276 ∧ k_ ≠ gb284))) _ _ x285000_17 x285001_17 x285002_17 x285003_17 t309 t312 t313 t314 _ ?side1 A118.out).mono ?_); (case side1 => exact HO_285000.out); rintro e w124 ⟨v310, rfl, ho0, hb⟩; refine ⟨_, rfl, ?_⟩; have n0_ := Aside0.mk (Kd.V_below (by (with_reducible repeat (first | apply Kd.V_alloc | apply Kd.V_drewN | apply Kd.V_drew)); exact HO_270000.out) hb); have n1_ := Aside0.mk (Kd.V_below (by (with_reducible repeat (first | apply Kd.V_alloc | apply Kd.V_drewN | apply Kd.V_drew)); exact HO_285000.out) hb); have n2_ := Aside0.mk (Kd.V_lower (Kd.V_mono (ok' := fun k_ => k_ ≠ gb269 ∧ k_ ≠ gb276 ∧ k_ ≠ gb284) ho0 (fun k_ hk_ => ⟨Or.elim hk_ (fun hs_ => hs_.1) (fun hn_ => (Kd.freshB (g := gb269) (o := .cells #[.slice Ao31 x270000_1.length co31, .bool true, .bool x270002_1, .int .i64 x270003_1] 27 (0, 0)) (by (with_reducible repeat (first | apply blk_drewN | apply blk_drew | apply blk_alloc)); exact BK269.out) k_ hn_)), Or.elim hk_ (fun hs_ => hs_.2.1) (fun hn_ => (Kd.freshB (g := gb276) (o := .cells #[.int .i64 t272, .string t273, .string t274, .int .i64 t275] 41 (0, 0)) (by (with_reducible repeat (first | apply blk_drewN | apply blk_drew | apply blk_alloc)); exact BK276.out) k_ hn_)), Or.elim hk_ (fun hs_ => hs_.2.2) (fun hn_ => (Kd.freshB (g := gb284) (o := .cells #[.slice Ao53 x285000_17.length co53, .bool x285001_17, .bool x285002_17, .int .i64 x285003_17] 27 (0, 0)) (by (with_reducible repeat (first | apply blk_drewN | apply blk_drew | apply blk_alloc)); exact BK284.out) k_ hn_))⟩)) (below_size (by repeat (first | (with_reducible first | exact HB.out | apply below_alloc | apply pw_below_drewN | apply below_drew1 | refine below_set ?_ GE269.out | refine below_set ?_ GE276.out | refine below_set ?_ GE284.out) | exact HB.out)))); have n3_ := Aside0.mk (blk_below (g := gb269) (o := .cells #[.slice Ao31 x270000_1.length co31, .bool true, .bool x270002_1, .int .i64 x270003_1] 27 (0, 0)) (by (with_reducible repeat (first | apply blk_drewN | apply blk_drew | apply blk_alloc)); exact BK269.out) hb); have n4_ := Aside0.mk (blk_below (g := gb276) (o := .cells #[.int .i64 t272, .string t273, .string t274, .int .i64 t275] 41 (0, 0)) (by (with_reducible repeat (first | apply blk_drewN | apply blk_drew | apply blk_alloc)); exact BK276.out) hb); have n5_ := Aside0.mk (blk_below (g := gb284) (o := .cells #[.slice Ao53 x285000_17.length co53, .bool x285001_17, .bool x285002_17, .int .i64 x285003_17] 27 (0, 0)) (by (with_reducible repeat (first | apply blk_drewN | apply blk_drew | apply blk_alloc)); exact BK284.out) hb); have n6_ := Aside0.mk (below_step (by repeat (first | (with_reducible first | exact HB.out | apply below_alloc | apply pw_below_drewN | apply below_drew1 | refine below_set ?_ GE269.out | refine below_set ?_ GE276.out | refine below_set ?_ GE284.out) | exact HB.out)) hb); clear HO_270000; clear HO_285000; clear BK269; clear BK276; clear BK284; clear HB; have HO_270000 := n0_; have HO_285000 := n1_; have HO311 := n2_; have BK269 := n3_; have BK276 := n4_; have BK284 := n5_; have HB := n6_; clear n0_ n1_ n2_ n3_ n4_ n5_ n6_; (try clear hb); (try clear hb2); (try clear hk); (try clear hi); (try clear ho0); obtain ⟨Ao125, co125, eo125⟩ := Kd.V_slice HO311.out; subst eo125; have hcz126_0 : w124.cell? ⟨gb269, 0, none⟩ = some (.slice Ao31 x270000_1.length co31) := (blk_cell BK269.out 0).trans rfl; have hcz126_1 : w124.cell? ⟨gb269, 1, none⟩ = some (.bool true) := (blk_cell BK269.out 1).trans rfl; have hcz126_2 : w124.cell? ⟨gb269, 2, none⟩ = some (.bool x270002_1) := (blk_cell BK269.out 2).trans rfl; have hcz126_3 : w124.cell? ⟨gb269, 3, none⟩ = some (.int .i64 x270003_1) := (blk_cell BK269.out 3).trans rfl; have hfz126_0 := blk_frozen BK269.out 0; have hfz126_1 := blk_frozen BK269.out 1; have hfz126_2 := blk_frozen BK269.out 2; have hfz126_3 := blk_frozen BK269.out 3))
                        go_roundg kj59
                        case measure => have := HK1.out; have := HJ10.out; have := HJ17.out; have := HJ48.out; have := HK5.out; have := HJ59.out; omega
                        case rel => exact ⟨(wrap64 (x8_1 + 1)), (t309), (t312), (t313), (t314), (.slice Ao125 t309.length co125), (by first | rfl | (simp; done) | (simp [*]; done)), H', ⟨by have := HK1.out; have := HJ10.out; have := HJ17.out; have := HJ48.out; have := HK5.out; have := HJ59.out; omega⟩, ⟨by (with_reducible repeat (first | apply Kd.V_alloc | apply Kd.V_drewN | apply Kd.V_drew)); exact Kd.V_mono (Kd.V_far (p := ⟨gb269, 3, none⟩) (Kd.V_far (p := ⟨gb269, 2, none⟩) (Kd.V_far (p := ⟨gb269, 1, none⟩) (Kd.V_far (p := ⟨gb269, 0, none⟩) (Kd.V_mono HO311.out (fun k_ hk => (⟨hk, hk.1⟩ : _ ∧ k_ ≠ gb269))) (fun _ hk => hk.2) _) (fun _ hk => hk.2) (.bool t312)) (fun _ hk => hk.2) (.bool t313)) (fun _ hk => hk.2) _) (fun _ hk => hk.1.1)⟩, ⟨by (with_reducible repeat (first | apply blk_drewN | apply blk_drew | apply blk_alloc)); refine blk_put (cs := #[.slice Ao125 t309.length co125, .bool t312, .bool t313, .int .i64 x270003_1]) ?_ 3 _ rfl; (with_reducible repeat (first | apply blk_drewN | apply blk_drew | apply blk_alloc)); refine blk_put (cs := #[.slice Ao125 t309.length co125, .bool t312, .bool x270002_1, .int .i64 x270003_1]) ?_ 2 _ rfl; (with_reducible repeat (first | apply blk_drewN | apply blk_drew | apply blk_alloc)); refine blk_put (cs := #[.slice Ao125 t309.length co125, .bool true, .bool x270002_1, .int .i64 x270003_1]) ?_ 1 _ rfl; (with_reducible repeat (first | apply blk_drewN | apply blk_drew | apply blk_alloc)); refine blk_put (cs := #[.slice Ao31 x270000_1.length co31, .bool true, .bool x270002_1, .int .i64 x270003_1]) ?_ 0 _ rfl; (with_reducible repeat (first | apply blk_drewN | apply blk_drew | apply blk_alloc)); exact BK269.out⟩, ⟨by repeat (first | (with_reducible first | exact HB.out | apply below_alloc | apply pw_below_drewN | apply below_drew1 | refine below_set ?_ GE269.out | refine below_set ?_ GE276.out | refine below_set ?_ GE284.out) | exact HB.out)⟩⟩
                      ·
                       replace c111 := Bool.eq_false_iff.mpr c111
                       subst c111
                       have H1 : (if (x285001_17 != (x13_48 == 0)) = true then (some false) else ((nand_On.f x285000_17 x285001_17 x285002_17 x285003_17).bind fun bt315 => (clinkerlaw05_NandCounts.l0 kj59 l0 true (wrap64 (x8_1 + 1)) bt315.1 bt315.2.1 bt315.2.2.1 bt315.2.2.2))) = some r := by rw [if_neg (show ¬ (false = true) by decide)] at H; exact H
                       clear H
                       have H := H1
                       clear H1
                       by_cases c127 : (x285001_17 != (x13_48 == 0)) = true
                       ·
                        rw [if_pos c127] at H
                        have c127b0 : (x285001_17 != (x13_48 == 0)) = true := c127
                        (try (have c127b1 : decide (x285001_17 = (x13_48 == 0)) = false := by simpa using c127))
                        (try (have c127b2 : (x285001_17 == (x13_48 == 0)) = false := by simpa using c127))
                        (try (have c127b3 : ¬ (x285001_17 = (x13_48 == 0)) := by simpa using c127))
                        clear c127
                        obtain rfl := Option.some.inj H
                        have hnb128 := NB284_269.out
                        have hnc128 := NB269_284.out
                        have hnb129 := NB284_276.out
                        have hnc129 := NB276_284.out
                        have hcz130_0 : wc.cell? ⟨gb284, 0, none⟩ = some (.slice Ao53 x285000_17.length co53) := (blk_cell BK284.out 0).trans rfl
                        have hcz130_1 : wc.cell? ⟨gb284, 1, none⟩ = some (.bool x285001_17) := (blk_cell BK284.out 1).trans rfl
                        have hcz130_2 : wc.cell? ⟨gb284, 2, none⟩ = some (.bool x285002_17) := (blk_cell BK284.out 2).trans rfl
                        have hcz130_3 : wc.cell? ⟨gb284, 3, none⟩ = some (.int .i64 x285003_17) := (blk_cell BK284.out 3).trans rfl
                        have hfz130_0 := blk_frozen BK284.out 0
                        have hfz130_1 := blk_frozen BK284.out 1
                        have hfz130_2 := blk_frozen BK284.out 2
                        have hfz130_3 := blk_frozen BK284.out 3
                        have hnb131 := NB269_276.out
                        have hnc131 := NB276_269.out
                        have hcz132_0 : wc.cell? ⟨gb269, 0, none⟩ = some (.slice Ao31 x270000_1.length co31) := (blk_cell BK269.out 0).trans rfl
                        have hcz132_1 : wc.cell? ⟨gb269, 1, none⟩ = some (.bool false) := (blk_cell BK269.out 1).trans rfl
                        have hcz132_2 : wc.cell? ⟨gb269, 2, none⟩ = some (.bool x270002_1) := (blk_cell BK269.out 2).trans rfl
                        have hcz132_3 : wc.cell? ⟨gb269, 3, none⟩ = some (.int .i64 x270003_1) := (blk_cell BK269.out 3).trans rfl
                        have hfz132_0 := blk_frozen BK269.out 0
                        have hfz132_1 := blk_frozen BK269.out 1
                        have hfz132_2 := blk_frozen BK269.out 2
                        have hfz132_3 := blk_frozen BK269.out 3
                        go_wp2
                        go_ret
                        exact ⟨by first | rfl | (simp [errW_none, errW_some] <;> rfl) | (simp [*, errW_none, errW_some] <;> rfl), by repeat (first | (with_reducible first | exact HB.out | apply below_alloc | apply pw_below_drewN | apply below_drew1 | refine below_set ?_ GE269.out | refine below_set ?_ GE276.out | refine below_set ?_ GE284.out) | exact HB.out)⟩
                       ·
                        rw [if_neg c127] at H
                        have c127b0 : (x285001_17 != (x13_48 == 0)) = false := by simpa using c127
                        (try (have c127b1 : decide (x285001_17 = (x13_48 == 0)) = true := by simpa using c127))
                        (try (have c127b2 : (x285001_17 == (x13_48 == 0)) = true := by simpa using c127))
                        clear c127
                        replace H := Option.bind_eq_some_iff.mp H
                        obtain ⟨⟨t315, t318, t319, t320⟩, A1330, H⟩ := H
                        replace H : (clinkerlaw05_NandCounts.l0 kj59 l0 true (wrap64 (x8_1 + 1)) t315 t318 t319 t320) = some r := H
                        have A133 := Aside0.mk A1330
                        clear A1330
                        have H' := Aside0.mk H
                        clear H
                        have hnb134 := NB284_269.out
                        have hnc134 := NB269_284.out
                        have hnb135 := NB284_276.out
                        have hnc135 := NB276_284.out
                        have hcz136_0 : wc.cell? ⟨gb284, 0, none⟩ = some (.slice Ao53 x285000_17.length co53) := (blk_cell BK284.out 0).trans rfl
                        have hcz136_1 : wc.cell? ⟨gb284, 1, none⟩ = some (.bool x285001_17) := (blk_cell BK284.out 1).trans rfl
                        have hcz136_2 : wc.cell? ⟨gb284, 2, none⟩ = some (.bool x285002_17) := (blk_cell BK284.out 2).trans rfl
                        have hcz136_3 : wc.cell? ⟨gb284, 3, none⟩ = some (.int .i64 x285003_17) := (blk_cell BK284.out 3).trans rfl
                        have hfz136_0 := blk_frozen BK284.out 0
                        have hfz136_1 := blk_frozen BK284.out 1
                        have hfz136_2 := blk_frozen BK284.out 2
                        have hfz136_3 := blk_frozen BK284.out 3
                        have hnb137 := NB269_276.out
                        have hnc137 := NB276_269.out
                        have hcz138_0 : wc.cell? ⟨gb269, 0, none⟩ = some (.slice Ao31 x270000_1.length co31) := (blk_cell BK269.out 0).trans rfl
                        have hcz138_1 : wc.cell? ⟨gb269, 1, none⟩ = some (.bool false) := (blk_cell BK269.out 1).trans rfl
                        have hcz138_2 : wc.cell? ⟨gb269, 2, none⟩ = some (.bool x270002_1) := (blk_cell BK269.out 2).trans rfl
                        have hcz138_3 : wc.cell? ⟨gb269, 3, none⟩ = some (.int .i64 x270003_1) := (blk_cell BK269.out 3).trans rfl
                        have hfz138_0 := blk_frozen BK269.out 0
                        have hfz138_1 := blk_frozen BK269.out 1
                        have hfz138_2 := blk_frozen BK269.out 2
                        have hfz138_3 := blk_frozen BK269.out 3
                        go_wp2_with (first | ((with_reducible refine gate_callee (f := 22) rfl ?_); refine goesL_ (some 143) rfl rfl Try.func22 (by kernel_rfl) rfl #[.agg #[.slice Ao53 x285000_17.length co53, .bool x285001_17, .bool x285002_17, .int .i64 x285003_17]] rfl (by (try simp only [List.map_toArray, List.map_cons, List.map_nil]); first | done | rfl | (simp only [List.length_drop, List.length_take]; rfl)) ?_; (with_reducible refine (nand_On.calls (fun k_ => (k_ ≠ gb269 ∧ (k_ ≠ gb276 ∧ k_ ≠ gb284))) _ _ x285000_17 x285001_17 x285002_17 x285003_17 t315 t318 t319 t320 _ ?side1 A133.out).mono ?_); (case side1 => exact HO_285000.out); rintro e w139 ⟨v316, rfl, ho0, hb⟩; refine ⟨_, rfl, ?_⟩; have n0_ := Aside0.mk (Kd.V_below (by (with_reducible repeat (first | apply Kd.V_alloc | apply Kd.V_drewN | apply Kd.V_drew)); exact HO_270000.out) hb); have n1_ := Aside0.mk (Kd.V_below (by (with_reducible repeat (first | apply Kd.V_alloc | apply Kd.V_drewN | apply Kd.V_drew)); exact HO_285000.out) hb); have n2_ := Aside0.mk (Kd.V_lower (Kd.V_mono (ok' := fun k_ => k_ ≠ gb269 ∧ k_ ≠ gb276 ∧ k_ ≠ gb284) ho0 (fun k_ hk_ => ⟨Or.elim hk_ (fun hs_ => hs_.1) (fun hn_ => (Kd.freshB (g := gb269) (o := .cells #[.slice Ao31 x270000_1.length co31, .bool false, .bool x270002_1, .int .i64 x270003_1] 27 (0, 0)) (by (with_reducible repeat (first | apply blk_drewN | apply blk_drew | apply blk_alloc)); exact BK269.out) k_ hn_)), Or.elim hk_ (fun hs_ => hs_.2.1) (fun hn_ => (Kd.freshB (g := gb276) (o := .cells #[.int .i64 t272, .string t273, .string t274, .int .i64 t275] 41 (0, 0)) (by (with_reducible repeat (first | apply blk_drewN | apply blk_drew | apply blk_alloc)); exact BK276.out) k_ hn_)), Or.elim hk_ (fun hs_ => hs_.2.2) (fun hn_ => (Kd.freshB (g := gb284) (o := .cells #[.slice Ao53 x285000_17.length co53, .bool x285001_17, .bool x285002_17, .int .i64 x285003_17] 27 (0, 0)) (by (with_reducible repeat (first | apply blk_drewN | apply blk_drew | apply blk_alloc)); exact BK284.out) k_ hn_))⟩)) (below_size (by repeat (first | (with_reducible first | exact HB.out | apply below_alloc | apply pw_below_drewN | apply below_drew1 | refine below_set ?_ GE269.out | refine below_set ?_ GE276.out | refine below_set ?_ GE284.out) | exact HB.out)))); have n3_ := Aside0.mk (blk_below (g := gb269) (o := .cells #[.slice Ao31 x270000_1.length co31, .bool false, .bool x270002_1, .int .i64 x270003_1] 27 (0, 0)) (by (with_reducible repeat (first | apply blk_drewN | apply blk_drew | apply blk_alloc)); exact BK269.out) hb); have n4_ := Aside0.mk (blk_below (g := gb276) (o := .cells #[.int .i64 t272, .string t273, .string t274, .int .i64 t275] 41 (0, 0)) (by (with_reducible repeat (first | apply blk_drewN | apply blk_drew | apply blk_alloc)); exact BK276.out) hb); have n5_ := Aside0.mk (blk_below (g := gb284) (o := .cells #[.slice Ao53 x285000_17.length co53, .bool x285001_17, .bool x285002_17, .int .i64 x285003_17] 27 (0, 0)) (by (with_reducible repeat (first | apply blk_drewN | apply blk_drew | apply blk_alloc)); exact BK284.out) hb); have n6_ := Aside0.mk (below_step (by repeat (first | (with_reducible first | exact HB.out | apply below_alloc | apply pw_below_drewN | apply below_drew1 | refine below_set ?_ GE269.out | refine below_set ?_ GE276.out | refine below_set ?_ GE284.out) | exact HB.out)) hb); clear HO_270000; clear HO_285000; clear BK269; clear BK276; clear BK284; clear HB; have HO_270000 := n0_; have HO_285000 := n1_; have HO317 := n2_; have BK269 := n3_; have BK276 := n4_; have BK284 := n5_; have HB := n6_; clear n0_ n1_ n2_ n3_ n4_ n5_ n6_; (try clear hb); (try clear hb2); (try clear hk); (try clear hi); (try clear ho0); obtain ⟨Ao140, co140, eo140⟩ := Kd.V_slice HO317.out; subst eo140; have hcz141_0 : w139.cell? ⟨gb269, 0, none⟩ = some (.slice Ao31 x270000_1.length co31) := (blk_cell BK269.out 0).trans rfl; have hcz141_1 : w139.cell? ⟨gb269, 1, none⟩ = some (.bool false) := (blk_cell BK269.out 1).trans rfl; have hcz141_2 : w139.cell? ⟨gb269, 2, none⟩ = some (.bool x270002_1) := (blk_cell BK269.out 2).trans rfl; have hcz141_3 : w139.cell? ⟨gb269, 3, none⟩ = some (.int .i64 x270003_1) := (blk_cell BK269.out 3).trans rfl; have hfz141_0 := blk_frozen BK269.out 0; have hfz141_1 := blk_frozen BK269.out 1; have hfz141_2 := blk_frozen BK269.out 2; have hfz141_3 := blk_frozen BK269.out 3))
                        go_roundg kj59
                        case measure => have := HK1.out; have := HJ10.out; have := HJ17.out; have := HJ48.out; have := HK5.out; have := HJ59.out; omega
                        case rel => exact ⟨(wrap64 (x8_1 + 1)), (t315), (t318), (t319), (t320), (.slice Ao140 t315.length co140), (by first | rfl | (simp; done) | (simp [*]; done)), H', ⟨by have := HK1.out; have := HJ10.out; have := HJ17.out; have := HJ48.out; have := HK5.out; have := HJ59.out; omega⟩, ⟨by (with_reducible repeat (first | apply Kd.V_alloc | apply Kd.V_drewN | apply Kd.V_drew)); exact Kd.V_mono (Kd.V_far (p := ⟨gb269, 3, none⟩) (Kd.V_far (p := ⟨gb269, 2, none⟩) (Kd.V_far (p := ⟨gb269, 1, none⟩) (Kd.V_far (p := ⟨gb269, 0, none⟩) (Kd.V_mono HO317.out (fun k_ hk => (⟨hk, hk.1⟩ : _ ∧ k_ ≠ gb269))) (fun _ hk => hk.2) _) (fun _ hk => hk.2) (.bool t318)) (fun _ hk => hk.2) (.bool t319)) (fun _ hk => hk.2) _) (fun _ hk => hk.1.1)⟩, ⟨by (with_reducible repeat (first | apply blk_drewN | apply blk_drew | apply blk_alloc)); refine blk_put (cs := #[.slice Ao140 t315.length co140, .bool t318, .bool t319, .int .i64 x270003_1]) ?_ 3 _ rfl; (with_reducible repeat (first | apply blk_drewN | apply blk_drew | apply blk_alloc)); refine blk_put (cs := #[.slice Ao140 t315.length co140, .bool t318, .bool x270002_1, .int .i64 x270003_1]) ?_ 2 _ rfl; (with_reducible repeat (first | apply blk_drewN | apply blk_drew | apply blk_alloc)); refine blk_put (cs := #[.slice Ao140 t315.length co140, .bool false, .bool x270002_1, .int .i64 x270003_1]) ?_ 1 _ rfl; (with_reducible repeat (first | apply blk_drewN | apply blk_drew | apply blk_alloc)); refine blk_put (cs := #[.slice Ao31 x270000_1.length co31, .bool false, .bool x270002_1, .int .i64 x270003_1]) ?_ 0 _ rfl; (with_reducible repeat (first | apply blk_drewN | apply blk_drew | apply blk_alloc)); exact BK269.out⟩, ⟨by repeat (first | (with_reducible first | exact HB.out | apply below_alloc | apply pw_below_drewN | apply below_drew1 | refine below_set ?_ GE269.out | refine below_set ?_ GE276.out | refine below_set ?_ GE284.out) | exact HB.out)⟩⟩
                     ·
                      rw [if_neg c110] at H
                      have c110b0 : (x14_5 == 0) = false := beq_eq_false_iff_ne.mpr c110
                      have c110b1 : (x14_5 != 0) = true := bne_iff_ne.mpr c110
                      exact absurd (H.trans (congrArg some hrt.out)) (by simp)
                    ·
                     rw [if_neg c109] at H
                     have c109b0 : (x285003_17 == (wrap64 (x270003_1 + x13_48))) = false := beq_eq_false_iff_ne.mpr c109
                     have c109b1 : (x285003_17 != (wrap64 (x270003_1 + x13_48))) = true := bne_iff_ne.mpr c109
                     exact absurd (H.trans (congrArg some hrt.out)) (by simp)
           ·
            rw [if_neg c48] at H
            have c48b0 : ((x285000_17.length : Int) == 3) = false := beq_eq_false_iff_ne.mpr c48
            have c48b1 : ((x285000_17.length : Int) != 3) = true := bne_iff_ne.mpr c48
            exact absurd (H.trans (congrArg some hrt.out)) (by simp)
        ·
         rw [if_neg c15] at H
         exact absurd H (by simp)
       ·
        rw [if_neg c14] at H
        exact absurd H (by simp)
      ·
       replace c13 := Bool.eq_false_iff.mpr c13
       subst c13
       have H1 : (some true) = some r := by rw [if_neg (show ¬ (false = true) by decide)] at H; exact H
       clear H
       have H := H1
       clear H1
       obtain rfl := Option.some.inj H
       go_wp2
       go_ret
       exact ⟨by first | rfl | (simp [errW_none, errW_some] <;> rfl) | (simp [*, errW_none, errW_some] <;> rfl), by repeat (first | exact HB.out | apply below_alloc | apply pw_below_drewN | apply below_drew1 | refine below_set ?_ GE269.out)⟩
 ·
  replace c4 := Bool.eq_false_iff.mpr c4
  subst c4
  have H1 : (some false) = some r := by rw [if_neg (show ¬ (false = true) by decide)] at H; exact H
  clear H
  have H := H1
  clear H1
  exact absurd (H.trans (congrArg some hrt.out)) (by simp)

end Go.Proofs.Ythjjngfbpoapnaa.PAll
