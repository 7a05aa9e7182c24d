/- Written by a program of this session (wip/xp) out of the translation: functions in plain Lean, and proofs that the calls come to these. -/
import Derived.Test.YtfolonajajideaaPAllx0
import Derived.Test.YtfolonajajideaaPAllx2
import Derived.Test.YtfolonajajideaaPAllx3
import Derived.Test.YtfolonajajideaaPAllx4
import Derived.Test.YtfolonajajideaaPAllx5
import Derived.Test.YtfolonajajideaaShort
namespace Go.Proofs.Ytfolonajajideaa.PAll
open Go.RowKit Go.Proofs.YtfolonajajideaaW.PrintWords Go.Proofs.YtfolonajajideaaW.PrintLast Go.Proofs.YtfolonajajideaaW.PrintMore
attribute [local go_sem] max2_int min2_int max_two min_two max_three min_three max_four min_four   -- for this text's walks alone
set_option linter.unusedVariables false
set_option linter.unusedSimpArgs false

/-! ### clinkerref02_Same: function 20 -/
def clinkerref02_Same.l0 : Nat → List Int → List Int → Int → Option (Bool)
 | 0, _, _, _ => none
 | k + 1, x0, x1, x5 => if x5 < (x0.length : Int) then (if 0 ≤ x5 then (if x5 < (x1.length : Int) then (if (rd x0 x5) = (rd x1 x5) then (clinkerref02_Same.l0 k x0 x1 (wrap64 (x5 + 1))) else (some false)) else (none)) else (none)) else (some true)
def clinkerref02_Same.f (k : Nat) (l0 : List Int) (l1 : List Int) : Option (Bool) := if (l0.length : Int) = (l1.length : Int) then (clinkerref02_Same.l0 k l0 l1 0) else (some false)
theorem clinkerref02_Same.mono_l : ∀ k, (∀ y0 y1 y2, LeO (clinkerref02_Same.l0 k y0 y1 y2) (clinkerref02_Same.l0 (k + 1) y0 y1 y2))
 | 0 => fun _ _ _ r h => by simp [clinkerref02_Same.l0] at h
 | k + 1 => by
  have ih0 := clinkerref02_Same.mono_l k
  ·
   intro y0 y1 y2
   unfold clinkerref02_Same.l0
   repeat' first
   | (with_reducible exact ih0 _ _ _)
   | (with_reducible exact LeO.refl _)
   | (with_reducible exact LeO.none _)
   | (with_reducible refine LeO.ite ?_ ?_)
   | (with_reducible refine LeO.bind ?_ (fun _ => ?_))
   | exact ih0 _ _ _
   | exact LeO.none _
   | refine LeO.ite ?_ ?_
   | refine LeO.bind ?_ (fun _ => ?_)
theorem clinkerref02_Same.mono : ∀ a0 a1 k, LeO (clinkerref02_Same.f k a0 a1) (clinkerref02_Same.f (k + 1) a0 a1) := by
 intro a0 a1 k
 have ih0 := clinkerref02_Same.mono_l k
 unfold clinkerref02_Same.f
 repeat' first
   | (with_reducible exact ih0 _ _ _)
   | (with_reducible exact LeO.refl _)
   | (with_reducible exact LeO.none _)
   | (with_reducible refine LeO.ite ?_ ?_)
   | (with_reducible refine LeO.bind ?_ (fun _ => ?_))
   | exact ih0 _ _ _
   | exact LeO.none _
   | refine LeO.ite ?_ ?_
   | refine LeO.bind ?_ (fun _ => ?_)
set_option maxHeartbeats 8000000 in
set_option maxRecDepth 100000 in
theorem clinkerref02_Same.calls (k : Nat) (A0 : Option Addr) (c0 : Nat) (l0 : List Int) (A1 : Option Addr) (c1 : Nat) (l1 : List Int) (r : Bool) (w : World) (hr0 : Kd.C (Kd.int .i64) w A0 l0.length l0) (hc0 : l0.length ≤ c0) (hr1 : Kd.C (Kd.int .i64) w A1 l1.length l1) (hc1 : l1.length ≤ c1) (h : clinkerref02_Same.f k l0 l1 = some r) :
  Calls Try.prog 20 #[.slice A0 l0.length c0, .slice A1 l1.length c1] w fun e w' => e = .returned (.bool r) ∧ Drawn0 w w' := by
 have HR0 := Aside0.mk hr0
 have HC0 := Aside0.mk hc0
 clear hr0 hc0
 have HR1 := Aside0.mk hr1
 have HC1 := Aside0.mk hc1
 clear hr1 hc1
 have H : (if (l0.length : Int) = (l1.length : Int) then (clinkerref02_Same.l0 k l0 l1 0) else (some false)) = some r := h
 clear h
 by_cases c3 : (l0.length : Int) = (l1.length : Int)
 ·
  rw [if_pos c3] at H
  have c3b0 : ((l0.length : Int) == (l1.length : Int)) = true := beq_iff_eq.mpr c3
  have c3b1 : ((l0.length : Int) != (l1.length : Int)) = false := bne_eq_false_iff_eq.mpr c3
  have c3b2 : (l0.length == l1.length) = true := by first | simpa using c3 | (simp at c3 ⊢; omega)
  clear c3
  have H' := Aside0.mk H
  clear H
  go_enter Try.func20, Try.ntmps20
  go_wp2
  repeat (go_quiet (fail); try go_wp2)
  go_loopg [5] k (fun kq v5 w' => ∃ (x5_1 : Int), v5 = .int .i64 x5_1 ∧ Aside0 (clinkerref02_Same.l0 kq l0 l1 x5_1 = some r) ∧ Aside0 (kq ≤ k) ∧ Drawn0 w w')
  case atStart => exact ⟨(0), (by first | rfl | (simp; done) | (simp [*]; done)), H', ⟨Nat.le_refl _⟩, by repeat (first | exact Drawn0.refl _ | apply Drawn0.step)⟩
  case round =>
   clear H'
   try clear c1
   try clear c2
   try clear p2
   try clear c3
   try clear c3b0
   try clear c3b1
   try clear c3b2
   obtain ⟨x5_1, rfl, HA, HK1, ⟨m1, rfl⟩⟩ := hrel
   cases gk with
   | zero => exact absurd HA.out (by simp [clinkerref02_Same.l0])
   | succ k1 =>
    have H := HA.out
    clear HA
    simp only [clinkerref02_Same.l0] at H
    by_cases c4 : x5_1 < (l0.length : Int)
    ·
     rw [if_pos c4] at H
     have c4b0 : decide (x5_1 < (l0.length : Int)) = true := decide_eq_true c4
     clear c4
     by_cases c5 : 0 ≤ x5_1
     ·
      rw [if_pos c5] at H
      have c5b0 : decide (0 ≤ x5_1) = true := decide_eq_true c5
      clear c5
      by_cases c6 : x5_1 < (l1.length : Int)
      ·
       rw [if_pos c6] at H
       have c6b0 : decide (x5_1 < (l1.length : Int)) = true := decide_eq_true c6
       clear c6
       by_cases c7 : (rd l0 x5_1) = (rd l1 x5_1)
       ·
        rw [if_pos c7] at H
        have c7b0 : ((rd l0 x5_1) == (rd l1 x5_1)) = true := beq_iff_eq.mpr c7
        have c7b1 : ((rd l0 x5_1) != (rd l1 x5_1)) = false := bne_eq_false_iff_eq.mpr c7
        clear c7
        have H' := Aside0.mk H
        clear H
        have p106 : 0 ≤ (x5_1 : Int) := of_decide_eq_true (by first | (with_reducible assumption) | assumption)
        have q106 : x5_1 < (l0.length : Int) := of_decide_eq_true (by first | (with_reducible assumption) | assumption)
        obtain ⟨ad106, e106, hx106_0⟩ := Kd.at_int HR0.out x5_1 p106 q106
        cases e106
        replace p106 := eq_true p106
        replace q106 := eq_true q106
        have p107 : 0 ≤ (x5_1 : Int) := of_decide_eq_true (by first | (with_reducible assumption) | assumption)
        have q107 : x5_1 < (l1.length : Int) := of_decide_eq_true (by first | (with_reducible assumption) | assumption)
        obtain ⟨ad107, e107, hx107_0⟩ := Kd.at_int HR1.out x5_1 p107 q107
        cases e107
        replace p107 := eq_true p107
        replace q107 := eq_true q107
        go_wp2
        repeat (go_quiet (fail); try go_wp2)
        go_roundg k1
        case measure => have := HK1.out; omega
        case rel => exact ⟨(wrap64 (x5_1 + 1)), (by first | rfl | (simp; done) | (simp [*]; done)), H', ⟨by have := HK1.out; omega⟩, by repeat (first | exact Drawn0.refl _ | apply Drawn0.step)⟩
       ·
        rw [if_neg c7] at H
        have c7b0 : ((rd l0 x5_1) == (rd l1 x5_1)) = false := beq_eq_false_iff_ne.mpr c7
        have c7b1 : ((rd l0 x5_1) != (rd l1 x5_1)) = true := bne_iff_ne.mpr c7
        obtain rfl := Option.some.inj H
        have p106 : 0 ≤ (x5_1 : Int) := of_decide_eq_true (by first | (with_reducible assumption) | assumption)
        have q106 : x5_1 < (l0.length : Int) := of_decide_eq_true (by first | (with_reducible assumption) | assumption)
        obtain ⟨ad106, e106, hx106_0⟩ := Kd.at_int HR0.out x5_1 p106 q106
        cases e106
        replace p106 := eq_true p106
        replace q106 := eq_true q106
        have p107 : 0 ≤ (x5_1 : Int) := of_decide_eq_true (by first | (with_reducible assumption) | assumption)
        have q107 : x5_1 < (l1.length : Int) := of_decide_eq_true (by first | (with_reducible assumption) | assumption)
        obtain ⟨ad107, e107, hx107_0⟩ := Kd.at_int HR1.out x5_1 p107 q107
        cases e107
        replace p107 := eq_true p107
        replace q107 := eq_true q107
        go_wp2
        repeat (go_quiet (fail); try go_wp2)
        go_ret
        exact ⟨by first | rfl | (simp; done) | (simp [*]; done), by repeat (first | exact Drawn0.refl _ | apply Drawn0.step)⟩
      ·
       rw [if_neg c6] at H
       exact absurd H (by simp)
     ·
      rw [if_neg c5] at H
      exact absurd H (by simp)
    ·
     rw [if_neg c4] at H
     have c4b0 : decide (x5_1 < (l0.length : Int)) = false := decide_eq_false c4
     clear c4
     obtain rfl := Option.some.inj H
     go_wp2
     repeat (go_quiet (fail); try go_wp2)
     go_ret
     exact ⟨by first | rfl | (simp; done) | (simp [*]; done), by repeat (first | exact Drawn0.refl _ | apply Drawn0.step)⟩
 ·
  rw [if_neg c3] at H
  have c3b0 : ((l0.length : Int) == (l1.length : Int)) = false := beq_eq_false_iff_ne.mpr c3
  have c3b1 : ((l0.length : Int) != (l1.length : Int)) = true := bne_iff_ne.mpr c3
  have c3b2 : (l0.length == l1.length) = false := by first | simpa using c3 | (simp at c3 ⊢; omega)
  obtain rfl := Option.some.inj H
  go_enter Try.func20, Try.ntmps20
  go_wp2
  repeat (go_quiet (fail); try go_wp2)
  go_ret
  exact ⟨by first | rfl | (simp; done) | (simp [*]; done), by repeat (first | exact Drawn0.refl _ | apply Drawn0.step)⟩

/-! ### clinkerlaw08_awake: function 9 -/
def clinkerlaw08_awake.f (k : Nat)  : Option (Bool) := (some (([5, (-1), 5] : List Int) : List Int)).bind fun y108 => ((some (([5, 6, 7] : List Int) : List Int)).bind fun y111 => ((live_Owners.f y108 y111 5).bind fun t115 => ((clinkerref02_Same.f k t115 (([0, 2] : List Int))).bind fun t121 => (if t121 = true then ((live_Says.f y108 y111 6).bind fun t122 => ((clinkerref02_Same.f k t122 (([1] : List Int))).bind fun t128 => (if t128 = true then ((live_Owners.f y108 y111 (-1)).bind fun t129 => (if (t129.length : Int) = 0 then ((live_Live.f k y108 y111 7).bind fun t132 => (if t132 = true then ((live_Live.f k y108 y111 8).bind fun t133 => (if t133 = true then (some false) else ((live_Count.f y108 y111 0).bind fun t134 => (if t134 = 3 then ((live_Count.f y108 y111 1).bind fun t135 => (some (t135 == 0))) else (some false))))) else (some false))) else (some false))) else (some false)))) else (some false)))))
theorem clinkerlaw08_awake.mono : ∀ k, LeO (clinkerlaw08_awake.f k ) (clinkerlaw08_awake.f (k + 1) ) := by
 intro  k
 unfold clinkerlaw08_awake.f
 repeat' first
   | (with_reducible exact clinkerref02_Same.mono _ _ _)
   | (with_reducible exact live_Live.mono _ _ _ _)
   | (with_reducible exact LeO.refl _)
   | (with_reducible exact LeO.none _)
   | (with_reducible refine LeO.ite ?_ ?_)
   | (with_reducible refine LeO.bind ?_ (fun _ => ?_))
   | exact clinkerref02_Same.mono _ _ _
   | exact live_Live.mono _ _ _ _
   | exact LeO.none _
   | refine LeO.ite ?_ ?_
   | refine LeO.bind ?_ (fun _ => ?_)
set_option maxHeartbeats 8000000 in
set_option maxRecDepth 100000 in
theorem clinkerlaw08_awake.callsT (k : Nat)  (r : Bool) (hrt : Aside0 (r = true)) (w : World) (h : clinkerlaw08_awake.f k  = some r) :
  Calls Try.prog 9 #[] w fun e w' => e = .returned (.bool r) ∧ Below w.heap.size w w' := by
 have hu24 := Try.underlying24
 have HB := Aside0.mk (Below.refl w.heap.size w)
 have H : ((some (([5, (-1), 5] : List Int) : List Int)).bind fun y108 => ((some (([5, 6, 7] : List Int) : List Int)).bind fun y111 => ((live_Owners.f y108 y111 5).bind fun t115 => ((clinkerref02_Same.f k t115 (([0, 2] : List Int))).bind fun t121 => (if t121 = true then ((live_Says.f y108 y111 6).bind fun t122 => ((clinkerref02_Same.f k t122 (([1] : List Int))).bind fun t128 => (if t128 = true then ((live_Owners.f y108 y111 (-1)).bind fun t129 => (if (t129.length : Int) = 0 then ((live_Live.f k y108 y111 7).bind fun t132 => (if t132 = true then ((live_Live.f k y108 y111 8).bind fun t133 => (if t133 = true then (some false) else ((live_Count.f y108 y111 0).bind fun t134 => (if t134 = 3 then ((live_Count.f y108 y111 1).bind fun t135 => (some (t135 == 0))) else (some false))))) else (some false))) else (some false))) else (some false)))) else (some false)))))) = some r := h
 clear h
 obtain ⟨y108, hy108⟩ : ∃ y_ : List Int, y_ = (([5, (-1), 5] : List Int)) := ⟨_, rfl⟩
 replace H : ((some (([5, 6, 7] : List Int) : List Int)).bind fun y111 => ((live_Owners.f y108 y111 5).bind fun t115 => ((clinkerref02_Same.f k t115 (([0, 2] : List Int))).bind fun t121 => (if t121 = true then ((live_Says.f y108 y111 6).bind fun t122 => ((clinkerref02_Same.f k t122 (([1] : List Int))).bind fun t128 => (if t128 = true then ((live_Owners.f y108 y111 (-1)).bind fun t129 => (if (t129.length : Int) = 0 then ((live_Live.f k y108 y111 7).bind fun t132 => (if t132 = true then ((live_Live.f k y108 y111 8).bind fun t133 => (if t133 = true then (some false) else ((live_Count.f y108 y111 0).bind fun t134 => (if t134 = 3 then ((live_Count.f y108 y111 1).bind fun t135 => (some (t135 == 0))) else (some false))))) else (some false))) else (some false))) else (some false)))) else (some false))))) = some r := by first | (rw [hy108]; with_reducible exact H) | (have H2_ := (Option.bind_some _ _).symm.trans H; rw [hy108]; with_reducible exact H2_) | (have H2_ := (Option.bind_some _ _).symm.trans H; with_reducible exact H2_) | with_reducible exact H | (rw [hy108]; exact H) | exact H
 have Ny108 := Aside0.mk hy108
 clear hy108
 obtain ⟨y111, hy111⟩ : ∃ y_ : List Int, y_ = (([5, 6, 7] : List Int)) := ⟨_, rfl⟩
 replace H : ((live_Owners.f y108 y111 5).bind fun t115 => ((clinkerref02_Same.f k t115 (([0, 2] : List Int))).bind fun t121 => (if t121 = true then ((live_Says.f y108 y111 6).bind fun t122 => ((clinkerref02_Same.f k t122 (([1] : List Int))).bind fun t128 => (if t128 = true then ((live_Owners.f y108 y111 (-1)).bind fun t129 => (if (t129.length : Int) = 0 then ((live_Live.f k y108 y111 7).bind fun t132 => (if t132 = true then ((live_Live.f k y108 y111 8).bind fun t133 => (if t133 = true then (some false) else ((live_Count.f y108 y111 0).bind fun t134 => (if t134 = 3 then ((live_Count.f y108 y111 1).bind fun t135 => (some (t135 == 0))) else (some false))))) else (some false))) else (some false))) else (some false)))) else (some false)))) = some r := by first | (rw [hy111]; with_reducible exact H) | (have H2_ := (Option.bind_some _ _).symm.trans H; rw [hy111]; with_reducible exact H2_) | (have H2_ := (Option.bind_some _ _).symm.trans H; with_reducible exact H2_) | with_reducible exact H | (rw [hy111]; exact H) | exact H
 have Ny111 := Aside0.mk hy111
 clear hy111
 replace H := Option.bind_eq_some_iff.mp H
 obtain ⟨t115, A10, H⟩ := H
 replace H : ((clinkerref02_Same.f k t115 (([0, 2] : List Int))).bind fun t121 => (if t121 = true then ((live_Says.f y108 y111 6).bind fun t122 => ((clinkerref02_Same.f k t122 (([1] : List Int))).bind fun t128 => (if t128 = true then ((live_Owners.f y108 y111 (-1)).bind fun t129 => (if (t129.length : Int) = 0 then ((live_Live.f k y108 y111 7).bind fun t132 => (if t132 = true then ((live_Live.f k y108 y111 8).bind fun t133 => (if t133 = true then (some false) else ((live_Count.f y108 y111 0).bind fun t134 => (if t134 = 3 then ((live_Count.f y108 y111 1).bind fun t135 => (some (t135 == 0))) else (some false))))) else (some false))) else (some false))) else (some false)))) else (some false))) = some r := H
 have A1 := Aside0.mk A10
 clear A10
 obtain ⟨y118, hy118⟩ : ∃ y_ : List Int, y_ = (([0, 2] : List Int)) := ⟨_, rfl⟩
 replace H : ((clinkerref02_Same.f k t115 y118).bind fun t121 => (if t121 = true then ((live_Says.f y108 y111 6).bind fun t122 => ((clinkerref02_Same.f k t122 (([1] : List Int))).bind fun t128 => (if t128 = true then ((live_Owners.f y108 y111 (-1)).bind fun t129 => (if (t129.length : Int) = 0 then ((live_Live.f k y108 y111 7).bind fun t132 => (if t132 = true then ((live_Live.f k y108 y111 8).bind fun t133 => (if t133 = true then (some false) else ((live_Count.f y108 y111 0).bind fun t134 => (if t134 = 3 then ((live_Count.f y108 y111 1).bind fun t135 => (some (t135 == 0))) else (some false))))) else (some false))) else (some false))) else (some false)))) else (some false))) = some r := by first | (rw [hy118]; with_reducible exact H) | (have H2_ := (Option.bind_some _ _).symm.trans H; rw [hy118]; with_reducible exact H2_) | (have H2_ := (Option.bind_some _ _).symm.trans H; with_reducible exact H2_) | with_reducible exact H | (rw [hy118]; exact H) | exact H
 have Ny118 := Aside0.mk hy118
 clear hy118
 replace H := Option.bind_eq_some_iff.mp H
 obtain ⟨t121, A20, H⟩ := H
 replace H : (if t121 = true then ((live_Says.f y108 y111 6).bind fun t122 => ((clinkerref02_Same.f k t122 (([1] : List Int))).bind fun t128 => (if t128 = true then ((live_Owners.f y108 y111 (-1)).bind fun t129 => (if (t129.length : Int) = 0 then ((live_Live.f k y108 y111 7).bind fun t132 => (if t132 = true then ((live_Live.f k y108 y111 8).bind fun t133 => (if t133 = true then (some false) else ((live_Count.f y108 y111 0).bind fun t134 => (if t134 = 3 then ((live_Count.f y108 y111 1).bind fun t135 => (some (t135 == 0))) else (some false))))) else (some false))) else (some false))) else (some false)))) else (some false)) = some r := H
 have A2 := Aside0.mk A20
 clear A20
 by_cases c3 : t121 = true
 ·
  subst c3
  have H1 : ((live_Says.f y108 y111 6).bind fun t122 => ((clinkerref02_Same.f k t122 (([1] : List Int))).bind fun t128 => (if t128 = true then ((live_Owners.f y108 y111 (-1)).bind fun t129 => (if (t129.length : Int) = 0 then ((live_Live.f k y108 y111 7).bind fun t132 => (if t132 = true then ((live_Live.f k y108 y111 8).bind fun t133 => (if t133 = true then (some false) else ((live_Count.f y108 y111 0).bind fun t134 => (if t134 = 3 then ((live_Count.f y108 y111 1).bind fun t135 => (some (t135 == 0))) else (some false))))) else (some false))) else (some false))) else (some false)))) = some r := by rw [if_pos rfl] at H; exact H
  clear H
  have H := H1
  clear H1
  replace H := Option.bind_eq_some_iff.mp H
  obtain ⟨t122, A40, H⟩ := H
  replace H : ((clinkerref02_Same.f k t122 (([1] : List Int))).bind fun t128 => (if t128 = true then ((live_Owners.f y108 y111 (-1)).bind fun t129 => (if (t129.length : Int) = 0 then ((live_Live.f k y108 y111 7).bind fun t132 => (if t132 = true then ((live_Live.f k y108 y111 8).bind fun t133 => (if t133 = true then (some false) else ((live_Count.f y108 y111 0).bind fun t134 => (if t134 = 3 then ((live_Count.f y108 y111 1).bind fun t135 => (some (t135 == 0))) else (some false))))) else (some false))) else (some false))) else (some false))) = some r := H
  have A4 := Aside0.mk A40
  clear A40
  obtain ⟨y125, hy125⟩ : ∃ y_ : List Int, y_ = (([1] : List Int)) := ⟨_, rfl⟩
  replace H : ((clinkerref02_Same.f k t122 y125).bind fun t128 => (if t128 = true then ((live_Owners.f y108 y111 (-1)).bind fun t129 => (if (t129.length : Int) = 0 then ((live_Live.f k y108 y111 7).bind fun t132 => (if t132 = true then ((live_Live.f k y108 y111 8).bind fun t133 => (if t133 = true then (some false) else ((live_Count.f y108 y111 0).bind fun t134 => (if t134 = 3 then ((live_Count.f y108 y111 1).bind fun t135 => (some (t135 == 0))) else (some false))))) else (some false))) else (some false))) else (some false))) = some r := by first | (rw [hy125]; with_reducible exact H) | (have H2_ := (Option.bind_some _ _).symm.trans H; rw [hy125]; with_reducible exact H2_) | (have H2_ := (Option.bind_some _ _).symm.trans H; with_reducible exact H2_) | with_reducible exact H | (rw [hy125]; exact H) | exact H
  have Ny125 := Aside0.mk hy125
  clear hy125
  replace H := Option.bind_eq_some_iff.mp H
  obtain ⟨t128, A50, H⟩ := H
  replace H : (if t128 = true then ((live_Owners.f y108 y111 (-1)).bind fun t129 => (if (t129.length : Int) = 0 then ((live_Live.f k y108 y111 7).bind fun t132 => (if t132 = true then ((live_Live.f k y108 y111 8).bind fun t133 => (if t133 = true then (some false) else ((live_Count.f y108 y111 0).bind fun t134 => (if t134 = 3 then ((live_Count.f y108 y111 1).bind fun t135 => (some (t135 == 0))) else (some false))))) else (some false))) else (some false))) else (some false)) = some r := H
  have A5 := Aside0.mk A50
  clear A50
  by_cases c6 : t128 = true
  ·
   subst c6
   have H1 : ((live_Owners.f y108 y111 (-1)).bind fun t129 => (if (t129.length : Int) = 0 then ((live_Live.f k y108 y111 7).bind fun t132 => (if t132 = true then ((live_Live.f k y108 y111 8).bind fun t133 => (if t133 = true then (some false) else ((live_Count.f y108 y111 0).bind fun t134 => (if t134 = 3 then ((live_Count.f y108 y111 1).bind fun t135 => (some (t135 == 0))) else (some false))))) else (some false))) else (some false))) = some r := by rw [if_pos rfl] at H; exact H
   clear H
   have H := H1
   clear H1
   replace H := Option.bind_eq_some_iff.mp H
   obtain ⟨t129, A70, H⟩ := H
   replace H : (if (t129.length : Int) = 0 then ((live_Live.f k y108 y111 7).bind fun t132 => (if t132 = true then ((live_Live.f k y108 y111 8).bind fun t133 => (if t133 = true then (some false) else ((live_Count.f y108 y111 0).bind fun t134 => (if t134 = 3 then ((live_Count.f y108 y111 1).bind fun t135 => (some (t135 == 0))) else (some false))))) else (some false))) else (some false)) = some r := H
   have A7 := Aside0.mk A70
   clear A70
   by_cases c8 : (t129.length : Int) = 0
   ·
    rw [if_pos c8] at H
    have c8b0 : ((t129.length : Int) == 0) = true := beq_iff_eq.mpr c8
    have c8b1 : ((t129.length : Int) != 0) = false := bne_eq_false_iff_eq.mpr c8
    clear c8
    replace H := Option.bind_eq_some_iff.mp H
    obtain ⟨t132, A90, H⟩ := H
    replace H : (if t132 = true then ((live_Live.f k y108 y111 8).bind fun t133 => (if t133 = true then (some false) else ((live_Count.f y108 y111 0).bind fun t134 => (if t134 = 3 then ((live_Count.f y108 y111 1).bind fun t135 => (some (t135 == 0))) else (some false))))) else (some false)) = some r := H
    have A9 := Aside0.mk A90
    clear A90
    by_cases c10 : t132 = true
    ·
     subst c10
     have H1 : ((live_Live.f k y108 y111 8).bind fun t133 => (if t133 = true then (some false) else ((live_Count.f y108 y111 0).bind fun t134 => (if t134 = 3 then ((live_Count.f y108 y111 1).bind fun t135 => (some (t135 == 0))) else (some false))))) = some r := by rw [if_pos rfl] at H; exact H
     clear H
     have H := H1
     clear H1
     replace H := Option.bind_eq_some_iff.mp H
     obtain ⟨t133, A110, H⟩ := H
     replace H : (if t133 = true then (some false) else ((live_Count.f y108 y111 0).bind fun t134 => (if t134 = 3 then ((live_Count.f y108 y111 1).bind fun t135 => (some (t135 == 0))) else (some false)))) = some r := H
     have A11 := Aside0.mk A110
     clear A110
     by_cases c12 : t133 = true
     ·
      subst c12
      have H1 : (some false) = some r := by rw [if_pos rfl] at H; exact H
      clear H
      have H := H1
      clear H1
      exact absurd (H.trans (congrArg some hrt.out)) (by simp)
     ·
      replace c12 := Bool.eq_false_iff.mpr c12
      subst c12
      have H1 : ((live_Count.f y108 y111 0).bind fun t134 => (if t134 = 3 then ((live_Count.f y108 y111 1).bind fun t135 => (some (t135 == 0))) else (some false))) = some r := by rw [if_neg (show ¬ (false = true) by decide)] at H; exact H
      clear H
      have H := H1
      clear H1
      replace H := Option.bind_eq_some_iff.mp H
      obtain ⟨t134, A390, H⟩ := H
      replace H : (if t134 = 3 then ((live_Count.f y108 y111 1).bind fun t135 => (some (t135 == 0))) else (some false)) = some r := H
      have A39 := Aside0.mk A390
      clear A390
      by_cases c40 : t134 = 3
      ·
       rw [if_pos c40] at H
       have c40b0 : (t134 == 3) = true := beq_iff_eq.mpr c40
       have c40b1 : (t134 != 3) = false := bne_eq_false_iff_eq.mpr c40
       clear c40
       replace H := Option.bind_eq_some_iff.mp H
       obtain ⟨t135, A410, H⟩ := H
       replace H : (some (t135 == 0)) = some r := H
       have A41 := Aside0.mk A410
       clear A410
       obtain rfl := Option.some.inj H
       go_enter Try.func9, Try.ntmps9
       go_wp2_with (first | ((with_reducible refine gate_dst (N := 2) rfl ?_); (try (refine gate_guard (by rfl) ?_; dsimp only)); refine Kd.R_lit (Kd.int .i64) _ 3 ?hg (N := 2) ?hd (xs := ([5, (-1), 5] : List Int)) (inner := [.int .i64 5, .int .i64 (-1), .int .i64 5]) (ok := fun _ => True) (okp := fun _ => True) ?hr ?hp (fun _ hk => hk) trivial (Below.refl _ _) (Nat.le_refl _) (by simp) ?_; (case hd => rfl); (case hg => rfl); (case hr => first | (go_simp; done) | (go_simp; rfl)); (case hp => exact (Reps.one (show Kd.M (Kd.int .i64) _ _ _ 5 [.int .i64 5] from rfl) (Reps.one (show Kd.M (Kd.int .i64) _ _ _ (-1) [.int .i64 (-1)] from rfl) (Reps.one (show Kd.M (Kd.int .i64) _ _ _ 5 [.int .i64 5] from rfl) (Reps.none _ _))))); intro v109 w42 ho43 hb hg_ hnew_; clear hg_ hnew_; (first | rw [← Ny108.out] at ho43 | (simp only [Int.reduceToNat] at ho43; rw [← Ny108.out] at ho43)); have HO110 := Aside0.mk (Kd.R_lower ho43 bsz); replace HB := Aside0.mk (bst hb); clear hb ho43) | ((with_reducible refine gate_dst (N := 3) rfl ?_); (try (refine gate_guard (by rfl) ?_; dsimp only)); refine Kd.R_lit (Kd.int .i64) _ 3 ?hg (N := 3) ?hd (xs := ([5, 6, 7] : List Int)) (inner := [.int .i64 5, .int .i64 6, .int .i64 7]) (ok := fun _ => True) (okp := fun _ => True) ?hr ?hp (fun _ hk => hk) trivial (Below.refl _ _) (Nat.le_refl _) (by simp) ?_; (case hd => rfl); (case hg => rfl); (case hr => first | (go_simp; done) | (go_simp; rfl)); (case hp => exact (Reps.one (show Kd.M (Kd.int .i64) _ _ _ 5 [.int .i64 5] from rfl) (Reps.one (show Kd.M (Kd.int .i64) _ _ _ 6 [.int .i64 6] from rfl) (Reps.one (show Kd.M (Kd.int .i64) _ _ _ 7 [.int .i64 7] from rfl) (Reps.none _ _))))); intro v112 w44 ho45 hb hg_ hnew_; clear hg_ hnew_; (first | rw [← Ny111.out] at ho45 | (simp only [Int.reduceToNat] at ho45; rw [← Ny111.out] at ho45)); have HO113 := Aside0.mk (Kd.R_lower (Kd.R_new' ho45 (Kd.R_lt (mR HO110.out))) bsz); replace HO110 := Aside0.mk (Kd.R_elder' (mR HO110.out) (Kd.R_base ho45) hb); replace HB := Aside0.mk (bst hb); clear hb ho45; obtain ⟨Ao46, co46, eo46⟩ := Kd.R_slice HO113.out; subst eo46; obtain ⟨Ao47, co47, eo47⟩ := Kd.R_slice HO110.out; subst eo47) | ((with_reducible refine gate_dst (N := 1) rfl ?_); (try (refine gate_guard (by rfl) ?_; dsimp only)); refine box_event ?hg (N := 1) ?hd (cs := #[.slice none 0 0, .slice none 0 0]) (t := 24) ?hr ?_; (case hd => rfl); (case hg => rfl); (case hr => first | (go_simp; done) | (go_simp; rfl)); intro gb114 hg w48 hbox hb; replace HO110 := Aside0.mk (Kd.R_below (mR HO110.out) hb); replace HO113 := Aside0.mk (Kd.R_below (mR HO113.out) hb); have BK114 := Aside0.mk (hbox); have GW114 := Aside0.mk ((bz hg : w.heap.size ≤ gb114)); replace HB := Aside0.mk (bst hb); have GE114 := GW114; clear hb hbox hg; obtain ⟨hcz49_0, hcz49_1, hfz49_0, hfz49_1⟩ := kc2 BK114.out) | ((with_reducible refine gate_callee (f := 17) rfl ?_); refine goesL_ (some 6) rfl rfl Try.func17 (by kernel_rfl) rfl #[.agg #[.slice Ao47 y108.length co47, .slice Ao46 y111.length co46], .int .i64 5] rfl (by (try simp only [List.map_toArray, List.map_cons, List.map_nil]); first | done | rfl | (simp only [List.length_drop, List.length_take]; rfl)) ?_; (with_reducible refine (live_Owners.calls _ _ y108 _ _ y111 5 t115 _ ?side1 ?side2 ?side3 ?side4 A1.out).mono ?_); (case side1 => refine (Kd.R_reads' (e := 3) (base := w.heap.size) (ok := fun k_ => (True ∧ some k_ ≠ (.slice Ao46 y111.length co46 : Value).ownBlock)) (n := y108.length) (c := co47) ?_).2.2; exact (by (with_reducible repeat (first | apply rA | apply rN | apply rD)); exact (Kd.R_mono (Kd.R_far (p := ⟨gb114, 1, none⟩) (Kd.R_far (p := ⟨gb114, 0, none⟩) (Kd.R_types HO110.out BK114.out (by decide)) (fun _ hk => hk.2) _) (fun _ hk => hk.2) _) (fun _ h_ => h_.1)))); (case side2 => exact (Kd.R_reads' HO110.out).2.1); (case side3 => refine (Kd.R_reads' (e := 3) (base := w.heap.size) (ok := fun k_ => (True ∧ some k_ ≠ (.slice Ao47 y108.length co47 : Value).ownBlock)) (n := y111.length) (c := co46) ?_).2.2; exact (by (with_reducible repeat (first | apply rA | apply rN | apply rD)); exact (Kd.R_mono (Kd.R_far (p := ⟨gb114, 1, none⟩) (Kd.R_far (p := ⟨gb114, 0, none⟩) (Kd.R_types HO113.out BK114.out (by decide)) (fun _ hk => hk.2) _) (fun _ hk => hk.2) _) (fun _ h_ => h_.1)))); (case side4 => exact (Kd.R_reads' HO113.out).2.1); rintro e w50 ⟨v116, rfl, ho0, hb⟩; refine ⟨_, rfl, ?_⟩; have HO117 := Aside0.mk (Kd.R_lower (Kd.R_new' (Kd.R_new' ho0 (Kd.R_lt (by (with_reducible repeat (first | apply rA | apply rN | apply rD)); exact (Kd.R_mono (Kd.R_far (p := ⟨gb114, 1, none⟩) (Kd.R_far (p := ⟨gb114, 0, none⟩) (Kd.R_types HO110.out BK114.out (by decide)) (fun _ hk => hk.2) _) (fun _ hk => hk.2) _) (fun _ h_ => h_.1))))) (Kd.R_lt (by (with_reducible repeat (first | apply rA | apply rN | apply rD)); exact (Kd.R_mono (Kd.R_far (p := ⟨gb114, 1, none⟩) (Kd.R_far (p := ⟨gb114, 0, none⟩) (Kd.R_types HO113.out BK114.out (by decide)) (fun _ hk => hk.2) _) (fun _ hk => hk.2) _) (fun _ h_ => h_.1))))) bsz); replace HO110 := Aside0.mk (Kd.R_elder' (by (with_reducible repeat (first | apply rA | apply rN | apply rD)); exact (Kd.R_mono (Kd.R_far (p := ⟨gb114, 1, none⟩) (Kd.R_far (p := ⟨gb114, 0, none⟩) (Kd.R_types HO110.out BK114.out (by decide)) (fun _ hk => hk.2) _) (fun _ hk => hk.2) _) (fun _ h_ => h_.1))) (Kd.R_base ho0) hb); replace HO113 := Aside0.mk (Kd.R_elder' (by (with_reducible repeat (first | apply rA | apply rN | apply rD)); exact (Kd.R_mono (Kd.R_far (p := ⟨gb114, 1, none⟩) (Kd.R_far (p := ⟨gb114, 0, none⟩) (Kd.R_types HO113.out BK114.out (by decide)) (fun _ hk => hk.2) _) (fun _ hk => hk.2) _) (fun _ h_ => h_.1))) (Kd.R_base ho0) hb); replace BK114 := Aside0.mk (blk_below (g := gb114) (o := .cells #[.slice Ao47 y108.length co47, .slice Ao46 y111.length co46] 24 (0, 0)) (by (with_reducible repeat (first | apply bN | apply bD | apply bA)); refine blk_put (cs := #[.slice Ao47 y108.length co47, .slice none 0 0]) ?_ 1 _ rfl; (with_reducible repeat (first | apply bN | apply bD | apply bA)); refine blk_put (cs := #[.slice none 0 0, .slice none 0 0]) ?_ 0 _ rfl; (with_reducible repeat (first | apply bN | apply bD | apply bA)); exact BK114.out) hb); replace HB := Aside0.mk (bst hb); (try clear hb); (try clear hb2); (try clear hk); (try clear hi); (try clear ho0)) | ((with_reducible refine gate_dst (N := 7) rfl ?_); (try (refine gate_guard (by rfl) ?_; dsimp only)); refine Kd.R_lit (Kd.int .i64) _ 3 ?hg (N := 7) ?hd (xs := ([0, 2] : List Int)) (inner := [.int .i64 0, .int .i64 2]) (ok := fun _ => True) (okp := fun _ => True) ?hr ?hp (fun _ hk => hk) trivial (Below.refl _ _) (Nat.le_refl _) (by simp) ?_; (case hd => rfl); (case hg => rfl); (case hr => first | (go_simp; done) | (go_simp; rfl)); (case hp => exact (Reps.one (show Kd.M (Kd.int .i64) _ _ _ 0 [.int .i64 0] from rfl) (Reps.one (show Kd.M (Kd.int .i64) _ _ _ 2 [.int .i64 2] from rfl) (Reps.none _ _)))); intro v119 w51 ho52 hb hg_ hnew_; clear hg_ hnew_; (first | rw [← Ny118.out] at ho52 | (simp only [Int.reduceToNat] at ho52; rw [← Ny118.out] at ho52)); have HO120 := Aside0.mk (Kd.R_lower (Kd.R_new' (Kd.R_new' (Kd.R_new' ho52 (Kd.R_lt (mR HO110.out))) (Kd.R_lt (mR HO113.out))) (Kd.R_lt (mR HO117.out))) bsz); replace HO110 := Aside0.mk (Kd.R_elder' (mR HO110.out) (Kd.R_base ho52) hb); replace HO113 := Aside0.mk (Kd.R_elder' (mR HO113.out) (Kd.R_base ho52) hb); replace HO117 := Aside0.mk (Kd.R_elder' (mR HO117.out) (Kd.R_base ho52) hb); replace BK114 := Aside0.mk (bb BK114.out hb); replace HB := Aside0.mk (bst hb); clear hb ho52; obtain ⟨Ao53, co53, eo53⟩ := Kd.R_slice HO117.out; subst eo53; obtain ⟨Ao54, co54, eo54⟩ := Kd.R_slice HO120.out; subst eo54) | ((with_reducible refine gate_callee (f := 20) rfl ?_); refine goesL_ (some 8) rfl rfl Try.func20 (by kernel_rfl) rfl #[.slice Ao53 t115.length co53, .slice Ao54 y118.length co54] rfl (by (try simp only [List.map_toArray, List.map_cons, List.map_nil]); first | done | rfl | (simp only [List.length_drop, List.length_take]; rfl)) ?_; (with_reducible refine (clinkerref02_Same.calls k _ _ t115 _ _ y118 true _ ?side1 ?side2 ?side3 ?side4 A2.out).mono ?_); (case side1 => repeat (first | exact (Kd.R_reads' HO117.out).2.2 | (with_reducible refine Kd.C_alloc ?_ _) | (with_reducible refine Kd.C_drewN ?_ _) | (with_reducible refine Kd.C_drew ?_))); (case side2 => exact (Kd.R_reads' HO117.out).2.1); (case side3 => repeat (first | exact (Kd.R_reads' HO120.out).2.2 | (with_reducible refine Kd.C_alloc ?_ _) | (with_reducible refine Kd.C_drewN ?_ _) | (with_reducible refine Kd.C_drew ?_))); (case side4 => exact (Kd.R_reads' HO120.out).2.1); rintro e w' ⟨rfl, ⟨nd, rfl⟩⟩; refine ⟨_, rfl, ?_⟩; obtain ⟨hcz55_0, hcz55_1, hfz55_0, hfz55_1⟩ := kc2 BK114.out) | (go_at_call 16; (with_reducible refine (live_Says.calls _ _ y108 _ _ y111 6 t122 _ ?side1 ?side2 ?side3 ?side4 A4.out).mono ?_); (case side1 => repeat (first | exact (Kd.R_reads' HO110.out).2.2 | (with_reducible refine Kd.C_alloc ?_ _) | (with_reducible refine Kd.C_drewN ?_ _) | (with_reducible refine Kd.C_drew ?_))); (case side2 => exact (Kd.R_reads' HO110.out).2.1); (case side3 => repeat (first | exact (Kd.R_reads' HO113.out).2.2 | (with_reducible refine Kd.C_alloc ?_ _) | (with_reducible refine Kd.C_drewN ?_ _) | (with_reducible refine Kd.C_drew ?_))); (case side4 => exact (Kd.R_reads' HO113.out).2.1); rintro e w56 ⟨v123, rfl, ho0, hb⟩; have HO124 := Aside0.mk (Kd.R_lower (Kd.R_new' (Kd.R_new' (Kd.R_new' (Kd.R_new' ho0 (Kd.R_lt (mR HO110.out))) (Kd.R_lt (mR HO113.out))) (Kd.R_lt (mR HO117.out))) (Kd.R_lt (mR HO120.out))) bsz); replace HO110 := Aside0.mk (Kd.R_elder' (mR HO110.out) (Kd.R_base ho0) hb); replace HO113 := Aside0.mk (Kd.R_elder' (mR HO113.out) (Kd.R_base ho0) hb); replace HO117 := Aside0.mk (Kd.R_elder' (mR HO117.out) (Kd.R_base ho0) hb); replace HO120 := Aside0.mk (Kd.R_elder' (mR HO120.out) (Kd.R_base ho0) hb); replace BK114 := Aside0.mk (bb BK114.out hb); replace HB := Aside0.mk (bst hb); (try clear hb); (try clear hb2); (try clear hk); (try clear hi); (try clear ho0)) | ((with_reducible refine gate_dst (N := 12) rfl ?_); (try (refine gate_guard (by rfl) ?_; dsimp only)); refine Kd.R_lit (Kd.int .i64) _ 3 ?hg (N := 12) ?hd (xs := ([1] : List Int)) (inner := [.int .i64 1]) (ok := fun _ => True) (okp := fun _ => True) ?hr ?hp (fun _ hk => hk) trivial (Below.refl _ _) (Nat.le_refl _) (by simp) ?_; (case hd => rfl); (case hg => rfl); (case hr => first | (go_simp; done) | (go_simp; rfl)); (case hp => exact (Reps.one (show Kd.M (Kd.int .i64) _ _ _ 1 [.int .i64 1] from rfl) (Reps.none _ _))); intro v126 w57 ho58 hb hg_ hnew_; clear hg_ hnew_; (first | rw [← Ny125.out] at ho58 | (simp only [Int.reduceToNat] at ho58; rw [← Ny125.out] at ho58)); have HO127 := Aside0.mk (Kd.R_lower (Kd.R_new' (Kd.R_new' (Kd.R_new' (Kd.R_new' (Kd.R_new' ho58 (Kd.R_lt (mR HO110.out))) (Kd.R_lt (mR HO113.out))) (Kd.R_lt (mR HO117.out))) (Kd.R_lt (mR HO120.out))) (Kd.R_lt (mR HO124.out))) bsz); replace HO110 := Aside0.mk (Kd.R_elder' (mR HO110.out) (Kd.R_base ho58) hb); replace HO113 := Aside0.mk (Kd.R_elder' (mR HO113.out) (Kd.R_base ho58) hb); replace HO117 := Aside0.mk (Kd.R_elder' (mR HO117.out) (Kd.R_base ho58) hb); replace HO120 := Aside0.mk (Kd.R_elder' (mR HO120.out) (Kd.R_base ho58) hb); replace HO124 := Aside0.mk (Kd.R_elder' (mR HO124.out) (Kd.R_base ho58) hb); replace BK114 := Aside0.mk (bb BK114.out hb); replace HB := Aside0.mk (bst hb); clear hb ho58; obtain ⟨Ao59, co59, eo59⟩ := Kd.R_slice HO124.out; subst eo59; obtain ⟨Ao60, co60, eo60⟩ := Kd.R_slice HO127.out; subst eo60) | (go_at_call 20; (with_reducible refine (clinkerref02_Same.calls k _ _ t122 _ _ y125 true _ ?side1 ?side2 ?side3 ?side4 A5.out).mono ?_); (case side1 => repeat (first | exact (Kd.R_reads' HO124.out).2.2 | (with_reducible refine Kd.C_alloc ?_ _) | (with_reducible refine Kd.C_drewN ?_ _) | (with_reducible refine Kd.C_drew ?_))); (case side2 => exact (Kd.R_reads' HO124.out).2.1); (case side3 => repeat (first | exact (Kd.R_reads' HO127.out).2.2 | (with_reducible refine Kd.C_alloc ?_ _) | (with_reducible refine Kd.C_drewN ?_ _) | (with_reducible refine Kd.C_drew ?_))); (case side4 => exact (Kd.R_reads' HO127.out).2.1); rintro e w' ⟨rfl, ⟨nd, rfl⟩⟩; obtain ⟨hcz61_0, hcz61_1, hfz61_0, hfz61_1⟩ := kc2 BK114.out) | (go_at_call 17; (with_reducible refine (live_Owners.calls _ _ y108 _ _ y111 (-1) t129 _ ?side1 ?side2 ?side3 ?side4 A7.out).mono ?_); (case side1 => repeat (first | exact (Kd.R_reads' HO110.out).2.2 | (with_reducible refine Kd.C_alloc ?_ _) | (with_reducible refine Kd.C_drewN ?_ _) | (with_reducible refine Kd.C_drew ?_))); (case side2 => exact (Kd.R_reads' HO110.out).2.1); (case side3 => repeat (first | exact (Kd.R_reads' HO113.out).2.2 | (with_reducible refine Kd.C_alloc ?_ _) | (with_reducible refine Kd.C_drewN ?_ _) | (with_reducible refine Kd.C_drew ?_))); (case side4 => exact (Kd.R_reads' HO113.out).2.1); rintro e w62 ⟨v130, rfl, ho0, hb⟩; have HO131 := Aside0.mk (Kd.R_lower (Kd.R_new' (Kd.R_new' (Kd.R_new' (Kd.R_new' (Kd.R_new' (Kd.R_new' ho0 (Kd.R_lt (mR HO110.out))) (Kd.R_lt (mR HO113.out))) (Kd.R_lt (mR HO117.out))) (Kd.R_lt (mR HO120.out))) (Kd.R_lt (mR HO124.out))) (Kd.R_lt (mR HO127.out))) bsz); replace HO110 := Aside0.mk (Kd.R_elder' (mR HO110.out) (Kd.R_base ho0) hb); replace HO113 := Aside0.mk (Kd.R_elder' (mR HO113.out) (Kd.R_base ho0) hb); replace HO117 := Aside0.mk (Kd.R_elder' (mR HO117.out) (Kd.R_base ho0) hb); replace HO120 := Aside0.mk (Kd.R_elder' (mR HO120.out) (Kd.R_base ho0) hb); replace HO124 := Aside0.mk (Kd.R_elder' (mR HO124.out) (Kd.R_base ho0) hb); replace HO127 := Aside0.mk (Kd.R_elder' (mR HO127.out) (Kd.R_base ho0) hb); replace BK114 := Aside0.mk (bb BK114.out hb); replace HB := Aside0.mk (bst hb); (try clear hb); (try clear hb2); (try clear hk); (try clear hi); (try clear ho0); obtain ⟨Ao63, co63, eo63⟩ := Kd.R_slice HO131.out; subst eo63; obtain ⟨hcz64_0, hcz64_1, hfz64_0, hfz64_1⟩ := kc2 BK114.out) | (go_at_call 14; (with_reducible refine (live_Live.calls k _ _ y108 _ _ y111 7 true _ ?side1 ?side2 ?side3 ?side4 A9.out).mono ?_); (case side1 => repeat (first | exact (Kd.R_reads' HO110.out).2.2 | (with_reducible refine Kd.C_alloc ?_ _) | (with_reducible refine Kd.C_drewN ?_ _) | (with_reducible refine Kd.C_drew ?_))); (case side2 => exact (Kd.R_reads' HO110.out).2.1); (case side3 => repeat (first | exact (Kd.R_reads' HO113.out).2.2 | (with_reducible refine Kd.C_alloc ?_ _) | (with_reducible refine Kd.C_drewN ?_ _) | (with_reducible refine Kd.C_drew ?_))); (case side4 => exact (Kd.R_reads' HO113.out).2.1); rintro e w65 ⟨rfl, hb⟩; replace HO110 := Aside0.mk (Kd.R_below (mR HO110.out) hb); replace HO113 := Aside0.mk (Kd.R_below (mR HO113.out) hb); replace HO117 := Aside0.mk (Kd.R_below (mR HO117.out) hb); replace HO120 := Aside0.mk (Kd.R_below (mR HO120.out) hb); replace HO124 := Aside0.mk (Kd.R_below (mR HO124.out) hb); replace HO127 := Aside0.mk (Kd.R_below (mR HO127.out) hb); replace HO131 := Aside0.mk (Kd.R_below (mR HO131.out) hb); replace BK114 := Aside0.mk (bb BK114.out hb); replace HB := Aside0.mk (bst hb); (try clear hb); (try clear hb2); (try clear hk); (try clear hi); obtain ⟨hcz66_0, hcz66_1, hfz66_0, hfz66_1⟩ := kc2 BK114.out) | (go_at_call 14; (with_reducible refine (live_Live.calls k _ _ y108 _ _ y111 8 false _ ?side1 ?side2 ?side3 ?side4 A11.out).mono ?_); (case side1 => repeat (first | exact (Kd.R_reads' HO110.out).2.2 | (with_reducible refine Kd.C_alloc ?_ _) | (with_reducible refine Kd.C_drewN ?_ _) | (with_reducible refine Kd.C_drew ?_))); (case side2 => exact (Kd.R_reads' HO110.out).2.1); (case side3 => repeat (first | exact (Kd.R_reads' HO113.out).2.2 | (with_reducible refine Kd.C_alloc ?_ _) | (with_reducible refine Kd.C_drewN ?_ _) | (with_reducible refine Kd.C_drew ?_))); (case side4 => exact (Kd.R_reads' HO113.out).2.1); rintro e w67 ⟨rfl, hb⟩; replace HO110 := Aside0.mk (Kd.R_below (mR HO110.out) hb); replace HO113 := Aside0.mk (Kd.R_below (mR HO113.out) hb); replace HO117 := Aside0.mk (Kd.R_below (mR HO117.out) hb); replace HO120 := Aside0.mk (Kd.R_below (mR HO120.out) hb); replace HO124 := Aside0.mk (Kd.R_below (mR HO124.out) hb); replace HO127 := Aside0.mk (Kd.R_below (mR HO127.out) hb); replace HO131 := Aside0.mk (Kd.R_below (mR HO131.out) hb); replace BK114 := Aside0.mk (bb BK114.out hb); replace HB := Aside0.mk (bst hb); (try clear hb); (try clear hb2); (try clear hk); (try clear hi); obtain ⟨hcz68_0, hcz68_1, hfz68_0, hfz68_1⟩ := kc2 BK114.out) | (go_at_call 13; (with_reducible refine (live_Count.calls _ _ y108 _ _ y111 0 t134 _ ?side1 ?side2 ?side3 ?side4 A39.out).mono ?_); (case side1 => repeat (first | exact (Kd.R_reads' HO110.out).2.2 | (with_reducible refine Kd.C_alloc ?_ _) | (with_reducible refine Kd.C_drewN ?_ _) | (with_reducible refine Kd.C_drew ?_))); (case side2 => exact (Kd.R_reads' HO110.out).2.1); (case side3 => repeat (first | exact (Kd.R_reads' HO113.out).2.2 | (with_reducible refine Kd.C_alloc ?_ _) | (with_reducible refine Kd.C_drewN ?_ _) | (with_reducible refine Kd.C_drew ?_))); (case side4 => exact (Kd.R_reads' HO113.out).2.1); rintro e w69 ⟨rfl, hb⟩; replace HO110 := Aside0.mk (Kd.R_below (mR HO110.out) hb); replace HO113 := Aside0.mk (Kd.R_below (mR HO113.out) hb); replace HO117 := Aside0.mk (Kd.R_below (mR HO117.out) hb); replace HO120 := Aside0.mk (Kd.R_below (mR HO120.out) hb); replace HO124 := Aside0.mk (Kd.R_below (mR HO124.out) hb); replace HO127 := Aside0.mk (Kd.R_below (mR HO127.out) hb); replace HO131 := Aside0.mk (Kd.R_below (mR HO131.out) hb); replace BK114 := Aside0.mk (bb BK114.out hb); replace HB := Aside0.mk (bst hb); (try clear hb); (try clear hb2); (try clear hk); (try clear hi); obtain ⟨hcz70_0, hcz70_1, hfz70_0, hfz70_1⟩ := kc2 BK114.out) | (go_at_call 13; (with_reducible refine (live_Count.calls _ _ y108 _ _ y111 1 t135 _ ?side1 ?side2 ?side3 ?side4 A41.out).mono ?_); (case side1 => repeat (first | exact (Kd.R_reads' HO110.out).2.2 | (with_reducible refine Kd.C_alloc ?_ _) | (with_reducible refine Kd.C_drewN ?_ _) | (with_reducible refine Kd.C_drew ?_))); (case side2 => exact (Kd.R_reads' HO110.out).2.1); (case side3 => repeat (first | exact (Kd.R_reads' HO113.out).2.2 | (with_reducible refine Kd.C_alloc ?_ _) | (with_reducible refine Kd.C_drewN ?_ _) | (with_reducible refine Kd.C_drew ?_))); (case side4 => exact (Kd.R_reads' HO113.out).2.1); rintro e w71 ⟨rfl, hb⟩; replace HO110 := Aside0.mk (Kd.R_below (mR HO110.out) hb); replace HO113 := Aside0.mk (Kd.R_below (mR HO113.out) hb); replace HO117 := Aside0.mk (Kd.R_below (mR HO117.out) hb); replace HO120 := Aside0.mk (Kd.R_below (mR HO120.out) hb); replace HO124 := Aside0.mk (Kd.R_below (mR HO124.out) hb); replace HO127 := Aside0.mk (Kd.R_below (mR HO127.out) hb); replace HO131 := Aside0.mk (Kd.R_below (mR HO131.out) hb); replace BK114 := Aside0.mk (bb BK114.out hb); replace HB := Aside0.mk (bst hb); (try clear hb); (try clear hb2); (try clear hk); (try clear hi)))
       go_ret
       exact ⟨by first | rfl | (simp [errW_none, errW_some] <;> rfl) | (simp [*, errW_none, errW_some] <;> rfl), by repeat (first | exact HB.out | apply lA | apply lN | apply lD | refine lS ?_ GE114.out)⟩
      ·
       rw [if_neg c40] at H
       have c40b0 : (t134 == 3) = false := beq_eq_false_iff_ne.mpr c40
       have c40b1 : (t134 != 3) = true := bne_iff_ne.mpr c40
       exact absurd (H.trans (congrArg some hrt.out)) (by simp)
    ·
     replace c10 := Bool.eq_false_iff.mpr c10
     subst c10
     have H1 : (some false) = some r := by rw [if_neg (show ¬ (false = true) by decide)] at H; exact H
     clear H
     have H := H1
     clear H1
     exact absurd (H.trans (congrArg some hrt.out)) (by simp)
   ·
    rw [if_neg c8] at H
    have c8b0 : ((t129.length : Int) == 0) = false := beq_eq_false_iff_ne.mpr c8
    have c8b1 : ((t129.length : Int) != 0) = true := bne_iff_ne.mpr c8
    have c8b2 : ¬ (t129 = []) := fun h_ => c8 (by rw [h_]; rfl)
    exact absurd (H.trans (congrArg some hrt.out)) (by simp)
  ·
   replace c6 := Bool.eq_false_iff.mpr c6
   subst c6
   have H1 : (some false) = some r := by rw [if_neg (show ¬ (false = true) by decide)] at H; exact H
   clear H
   have H := H1
   clear H1
   exact absurd (H.trans (congrArg some hrt.out)) (by simp)
 ·
  replace c3 := Bool.eq_false_iff.mpr c3
  subst c3
  have H1 : (some false) = some r := by rw [if_neg (show ¬ (false = true) by decide)] at H; exact H
  clear H
  have H := H1
  clear H1
  exact absurd (H.trans (congrArg some hrt.out)) (by simp)
theorem clinkerlaw08_awake.yes (k : Nat) (r : Bool) (h : clinkerlaw08_awake.f k = some r) : r = true := by
 have h1 : clinkerlaw08_awake.f 12 = some true := by kernel_rfl
 have h2 := at_rounds (g := clinkerlaw08_awake.f) clinkerlaw08_awake.mono (Nat.le_add_right k 12) h
 have h3 := at_rounds (g := clinkerlaw08_awake.f) clinkerlaw08_awake.mono (Nat.le_add_left 12 k) h1
 exact Option.some.inj (h2.symm.trans h3)
theorem clinkerlaw08_awake.calls (k : Nat) (r : Bool) (w : World) (h : clinkerlaw08_awake.f k  = some r) :
  Calls Try.prog 9 #[] w fun e w' => e = .returned (.bool r) ∧ Below w.heap.size w w' := clinkerlaw08_awake.callsT k r ⟨clinkerlaw08_awake.yes k r h⟩ w h
end Go.Proofs.Ytfolonajajideaa.PAll
