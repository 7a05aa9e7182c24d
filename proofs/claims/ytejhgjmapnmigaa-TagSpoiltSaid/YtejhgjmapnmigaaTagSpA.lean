/- Written by a program of this session (wip/xp) out of the translation: functions in plain Lean, and proofs that the calls come to these. -/
import Derived.Test.YtejhgjmapnmigaaPAllx0
import Derived.Test.YtejhgjmapnmigaaPAllx9
import Derived.Test.YtejhgjmapnmigaaPAllx12
import Derived.Test.YtejhgjmapnmigaaPAllx13
import Derived.Test.YtejhgjmapnmigaaPAllx17
namespace Go.Proofs.Ytejhgjmapnmigaa.PAll
open Go.RowKit Go.Proofs.YtejhgjmapnmigaaW.PrintWords Go.Proofs.YtejhgjmapnmigaaW.PrintLast Go.Proofs.YtejhgjmapnmigaaW.PrintMore
attribute [local go_sem] max2_int min2_int max_two min_two max_three min_three max_four min_four   -- for this text's walks alone
set_option linter.unusedVariables false
set_option linter.unusedSimpArgs false

theorem rA {α : Type} {d : Kd α} {e : Nat} {w : World} {base : Nat} {ok : Nat → Prop} {v : Value} {xs : List α} (h : d.R e w base ok v xs) (o : Obj) : d.R e (w.alloc o) base ok v xs := Kd.R_alloc h o
theorem rN {α : Type} {d : Kd α} {e : Nat} {w : World} {base : Nat} {ok : Nat → Prop} {v : Value} {xs : List α} (h : d.R e w base ok v xs) (m : Nat) : d.R e (w.drewN m) base ok v xs := Kd.R_drewN h m
theorem rD {α : Type} {d : Kd α} {e : Nat} {w : World} {base : Nat} {ok : Nat → Prop} {v : Value} {xs : List α} (h : d.R e w base ok v xs) : d.R e w.drew base ok v xs := Kd.R_drew h
/-! ### clinkerlaw03_change: function 19 -/
def clinkerlaw03_change.l0 : Nat → ByteArray → Int → Int → List Int → Int → Option (ByteArray)
 | 0, _, _, _, _, _ => none
 | k + 1, x0, x1, x2, x7, x8 => if x8 < (x0.size : Int) then (if 0 ≤ x8 then (if x8 = x1 then (if x7.length < 140737488355328 then (clinkerlaw03_change.l0 k x0 x1 x2 (x7 ++ [(Int.tmod (wrap64 ((wrap64 (bt x0 x8)) + x2)) 256) % 256]) (wrap64 (x8 + 1))) else (none)) else (if x7.length < 140737488355328 then (clinkerlaw03_change.l0 k x0 x1 x2 (x7 ++ [(wrap64 (bt x0 x8)) % 256]) (wrap64 (x8 + 1))) else (none))) else (none)) else (some (strOfNums x7))
def clinkerlaw03_change.f (k : Nat) (a0 : ByteArray) (a1 : Int) (a2 : Int) : Option (ByteArray) := clinkerlaw03_change.l0 k a0 a1 a2 ([] : List Int) 0
theorem clinkerlaw03_change.mono_l : ∀ k, (∀ y0 y1 y2 y3 y4, LeO (clinkerlaw03_change.l0 k y0 y1 y2 y3 y4) (clinkerlaw03_change.l0 (k + 1) y0 y1 y2 y3 y4))
 | 0 => fun _ _ _ _ _ r h => by simp [clinkerlaw03_change.l0] at h
 | k + 1 => by
  have ih0 := clinkerlaw03_change.mono_l k
  ·
   intro y0 y1 y2 y3 y4
   unfold clinkerlaw03_change.l0
   repeat' first
   | (with_reducible exact ih0 _ _ _ _ _)
   | (with_reducible exact LeO.refl _)
   | (with_reducible exact LeO.none _)
   | (with_reducible refine LeO.ite ?_ ?_)
   | (with_reducible refine LeO.bind ?_ (fun _ => ?_))
   | exact ih0 _ _ _ _ _
   | exact LeO.none _
   | refine LeO.ite ?_ ?_
   | refine LeO.bind ?_ (fun _ => ?_)
theorem clinkerlaw03_change.mono : ∀ a0 a1 a2 k, LeO (clinkerlaw03_change.f k a0 a1 a2) (clinkerlaw03_change.f (k + 1) a0 a1 a2) := by
 intro a0 a1 a2 k
 have ih0 := clinkerlaw03_change.mono_l k
 unfold clinkerlaw03_change.f
 repeat' first
   | (with_reducible exact ih0 _ _ _ _ _)
   | (with_reducible exact LeO.refl _)
   | (with_reducible exact LeO.none _)
   | (with_reducible refine LeO.ite ?_ ?_)
   | (with_reducible refine LeO.bind ?_ (fun _ => ?_))
   | exact ih0 _ _ _ _ _
   | exact LeO.none _
   | refine LeO.ite ?_ ?_
   | refine LeO.bind ?_ (fun _ => ?_)
set_option maxHeartbeats 8000000 in
set_option maxRecDepth 100000 in
theorem clinkerlaw03_change.calls (k : Nat) (a0 : ByteArray) (a1 : Int) (a2 : Int) (r : ByteArray) (w : World) (h : clinkerlaw03_change.f k a0 a1 a2 = some r) :
  Calls Try.prog 19 #[.string a0, .int .i64 a1, .int .i64 a2] w fun e w' => e = .returned (.string r) ∧ Below w.heap.size w w' := by
 have HB := Aside0.mk (Below.refl w.heap.size w)
 have H : (clinkerlaw03_change.l0 k a0 a1 a2 ([] : List Int) 0) = some r := h
 clear h
 have H' := Aside0.mk H
 clear H
 go_enter Try.func19, Try.ntmps19
 go_wp2
 go_loopg [7, 8] k (fun kq v7 v8 w' => ∃ (x7_1 : List Int) (x8_1 : Int), v8 = .int .i64 x8_1 ∧ Aside0 (clinkerlaw03_change.l0 kq a0 a1 a2 x7_1 x8_1 = some r) ∧ Aside0 (kq ≤ k) ∧ Aside0 (Kd.R (Kd.int .u8) 5 w' w.heap.size (fun _ => True) v7 x7_1) ∧ Aside0 (Below w.heap.size w w'))
 case atStart => exact ⟨(([] : List Int)), (0), (by first | rfl | (simp; done) | (simp [*]; done)), H', ⟨Nat.le_refl _⟩, ⟨by first | exact Kd.R_nil _ _ _ _ _ | exact Kd.N_nil _ _ _ _ _ | exact Kd.V_nil _ _ _ _ _ | exact Kd.Q_nil _ _ _ _ _ | exact Kd.S_nil _ _ _ _ _⟩, ⟨by repeat (first | (with_reducible first | exact HB.out | apply below_alloc | apply pw_below_drewN | apply below_drew1) | exact HB.out)⟩⟩
 case round =>
  clear H'
  try clear c1
  try clear p2
  obtain ⟨x7_1, x8_1, rfl, HA, HK1, HO_7, HB⟩ := hrel
  cases gk with
  | zero => exact absurd HA.out (by simp [clinkerlaw03_change.l0])
  | succ k1 =>
   have H := HA.out
   clear HA
   simp only [clinkerlaw03_change.l0] at H
   by_cases c4 : x8_1 < (a0.size : Int)
   ·
    rw [if_pos c4] at H
    have c4b0 : decide (x8_1 < (a0.size : Int)) = true := decide_eq_true c4
    clear c4
    by_cases c5 : 0 ≤ x8_1
    ·
     rw [if_pos c5] at H
     have c5b0 : decide (0 ≤ x8_1) = true := decide_eq_true c5
     clear c5
     by_cases c7 : x8_1 = a1
     ·
      rw [if_pos c7] at H
      have c7b0 : (x8_1 == a1) = true := beq_iff_eq.mpr c7
      have c7b1 : (x8_1 != a1) = false := bne_eq_false_iff_eq.mpr c7
      clear c7
      by_cases c8 : x7_1.length < 140737488355328
      ·
       rw [if_pos c8] at H
       have LMc8 := Aside0.mk c8
       clear c8
       obtain ⟨y168, hy168⟩ : ∃ y_ : List Int, y_ = (x7_1 ++ [(Int.tmod (wrap64 ((wrap64 (bt a0 x8_1)) + a2)) 256) % 256]) := ⟨_, rfl⟩
       replace H : (clinkerlaw03_change.l0 k1 a0 a1 a2 y168 (wrap64 (x8_1 + 1))) = some r := by first | (rw [hy168]; with_reducible exact H) | (have H2_ := (Option.bind_some _ _).symm.trans H; rw [hy168]; with_reducible exact H2_) | (have H2_ := (Option.bind_some _ _).symm.trans H; with_reducible exact H2_) | with_reducible exact H | (rw [hy168]; exact H) | exact H
       have Ny168 := Aside0.mk hy168
       clear hy168
       have H' := Aside0.mk H
       clear H
       have p6 : 0 ≤ (x8_1 : Int) := of_decide_eq_true (by first | (with_reducible assumption) | assumption)
       have q6 : x8_1 < (a0.size : Int) := of_decide_eq_true (by first | (with_reducible assumption) | assumption)
       have hx6 := bt_at a0 x8_1
       replace p6 := eq_true p6
       replace q6 := eq_true q6
       go_wp2_with (first | ((with_reducible refine gate_builtin (b := .append) (xs := #[.tmp 27, .tmp 30]) rfl ?_); at_builtin; refine Kd.R_append (Kd.int .u8) (w0 := w) w.heap.size rfl (.tmp 27) (.tmp 30) 42 5 (.int .u8 0) 1 rfl Try.underlying42 info5 rfl (by decide) (by omega) u7 x7_1 ((Int.tmod (wrap64 ((wrap64 (bt a0 x8_1)) + a2)) 256) % 256) [.int .u8 ((Int.tmod (wrap64 ((wrap64 (bt a0 x8_1)) + a2)) 256) % 256)] (fun _ => True) (fun _ => False) rfl rfl ?aP (fun _ hk => hk.elim) ?aF ?aO ?aB ?aS ?aL ?_; (case aP => exact rfl); (case aB => exact (by repeat (first | (with_reducible first | exact HB.out | apply below_alloc | apply pw_below_drewN | apply below_drew1) | exact HB.out))); (case aF => exact (fun _ _ => trivial)); (case aO => exact (by (with_reducible repeat (first | apply Kd.R_alloc | apply Kd.R_drewN | apply Kd.R_drew)); exact HO_7.out)); (case aS => exact (below_size (by repeat (first | (with_reducible first | exact HB.out | apply below_alloc | apply pw_below_drewN | apply below_drew1) | exact HB.out)))); (case aL => have := LMc8.out; omega); intro v169 w9 ho hb hg hat; rw [← Ny168.out] at ho; have n0_ := Aside0.mk (hb); have n1_ := Aside0.mk (ho); clear HB; clear HO_7; have HB := n0_; have HO170 := n1_; clear n0_ n1_; clear ho hb hg hat))
       go_roundg k1
       case measure => have := HK1.out; omega
       case rel => exact ⟨(y168), (wrap64 (x8_1 + 1)), (by first | rfl | (simp; done) | (simp [*]; done)), H', ⟨by have := HK1.out; omega⟩, ⟨by (with_reducible repeat (first | apply Kd.R_alloc | apply Kd.R_drewN | apply Kd.R_drew)); exact HO170.out⟩, ⟨by repeat (first | (with_reducible first | exact HB.out | apply below_alloc | apply pw_below_drewN | apply below_drew1) | exact HB.out)⟩⟩
      ·
       rw [if_neg c8] at H
       exact absurd H (by simp)
     ·
      rw [if_neg c7] at H
      have c7b0 : (x8_1 == a1) = false := beq_eq_false_iff_ne.mpr c7
      have c7b1 : (x8_1 != a1) = true := bne_iff_ne.mpr c7
      by_cases c10 : x7_1.length < 140737488355328
      ·
       rw [if_pos c10] at H
       have LMc10 := Aside0.mk c10
       clear c10
       obtain ⟨y171, hy171⟩ : ∃ y_ : List Int, y_ = (x7_1 ++ [(wrap64 (bt a0 x8_1)) % 256]) := ⟨_, rfl⟩
       replace H : (clinkerlaw03_change.l0 k1 a0 a1 a2 y171 (wrap64 (x8_1 + 1))) = some r := by first | (rw [hy171]; with_reducible exact H) | (have H2_ := (Option.bind_some _ _).symm.trans H; rw [hy171]; with_reducible exact H2_) | (have H2_ := (Option.bind_some _ _).symm.trans H; with_reducible exact H2_) | with_reducible exact H | (rw [hy171]; exact H) | exact H
       have Ny171 := Aside0.mk hy171
       clear hy171
       have H' := Aside0.mk H
       clear H
       have p6 : 0 ≤ (x8_1 : Int) := of_decide_eq_true (by first | (with_reducible assumption) | assumption)
       have q6 : x8_1 < (a0.size : Int) := of_decide_eq_true (by first | (with_reducible assumption) | assumption)
       have hx6 := bt_at a0 x8_1
       replace p6 := eq_true p6
       replace q6 := eq_true q6
       go_wp2_with (first | ((with_reducible refine gate_builtin (b := .append) (xs := #[.tmp 27, .tmp 30]) rfl ?_); at_builtin; refine Kd.R_append (Kd.int .u8) (w0 := w) w.heap.size rfl (.tmp 27) (.tmp 30) 42 5 (.int .u8 0) 1 rfl Try.underlying42 info5 rfl (by decide) (by omega) u7 x7_1 ((wrap64 (bt a0 x8_1)) % 256) [.int .u8 ((wrap64 (bt a0 x8_1)) % 256)] (fun _ => True) (fun _ => False) rfl rfl ?aP (fun _ hk => hk.elim) ?aF ?aO ?aB ?aS ?aL ?_; (case aP => exact rfl); (case aB => exact (by repeat (first | (with_reducible first | exact HB.out | apply below_alloc | apply pw_below_drewN | apply below_drew1) | exact HB.out))); (case aF => exact (fun _ _ => trivial)); (case aO => exact (by (with_reducible repeat (first | apply Kd.R_alloc | apply Kd.R_drewN | apply Kd.R_drew)); exact HO_7.out)); (case aS => exact (below_size (by repeat (first | (with_reducible first | exact HB.out | apply below_alloc | apply pw_below_drewN | apply below_drew1) | exact HB.out)))); (case aL => have := LMc10.out; omega); intro v172 w11 ho hb hg hat; rw [← Ny171.out] at ho; have n0_ := Aside0.mk (hb); have n1_ := Aside0.mk (ho); clear HB; clear HO_7; have HB := n0_; have HO173 := n1_; clear n0_ n1_; clear ho hb hg hat))
       go_roundg k1
       case measure => have := HK1.out; omega
       case rel => exact ⟨(y171), (wrap64 (x8_1 + 1)), (by first | rfl | (simp; done) | (simp [*]; done)), H', ⟨by have := HK1.out; omega⟩, ⟨by (with_reducible repeat (first | apply Kd.R_alloc | apply Kd.R_drewN | apply Kd.R_drew)); exact HO173.out⟩, ⟨by repeat (first | (with_reducible first | exact HB.out | apply below_alloc | apply pw_below_drewN | apply below_drew1) | exact HB.out)⟩⟩
      ·
       rw [if_neg c10] at H
       exact absurd H (by simp)
    ·
     rw [if_neg c5] at H
     exact absurd H (by simp)
   ·
    rw [if_neg c4] at H
    have c4b0 : decide (x8_1 < (a0.size : Int)) = false := decide_eq_false c4
    clear c4
    obtain rfl := Option.some.inj H
    have hcv12 := own_string (P := Try.prog) Try.underlying42 Try.underlying5 Try.underlying9 (Kd.own_of_R HO_7.out)
    go_wp2
    go_ret
    exact ⟨by first | rfl | (simp [errW_none, errW_some] <;> rfl) | (simp [*, errW_none, errW_some] <;> rfl), by repeat (first | (with_reducible first | exact HB.out | apply below_alloc | apply pw_below_drewN | apply below_drew1) | exact HB.out)⟩

/-! ### clinkerlaw03_TagSpoilt: function 7 -/
mutual
def clinkerlaw03_TagSpoilt.j0 : Nat → List Int → ByteArray → Int → Int → Bool → Option (Bool)
 | 0, _, _, _, _, _ => none
 | k + 1, x0, x1, x2, x3, x9 => (clinkerlaw03_Made.f x0).bind fun bt175 => ((tag_Encode.f k bt175.1 bt175.2.1 bt175.2.2.1 bt175.2.2.2 x1).bind fun bt183 => (if bt183.2 = 0 then (clinkerlaw03_TagSpoilt.j1 k x1 x2 x3 x9 bt183.1 (bt183.1.toList == ([] : List UInt8))) else (clinkerlaw03_TagSpoilt.j1 k x1 x2 x3 x9 bt183.1 true)))
def clinkerlaw03_TagSpoilt.j1 : Nat → ByteArray → Int → Int → Bool → ByteArray → Bool → Option (Bool)
 | 0, _, _, _, _, _, _ => none
 | k + 1, x1, x2, x3, x9, x10, x41 => if x41 = true then (some false) else (if (x10.size : Int) = 0 then (none) else ((clinkerlaw03_change.f k x10 (Int.tmod (wrap64 (x2)) (x10.size : Int)) (wrap64 (1 + (Int.tmod (wrap64 (x3)) 255)))).bind fun t185 => ((tag_Decode.f k t185 x1).bind fun bt186 => (if x10.size + 1 ≤ 9223372036854775807 then ((tag_Decode.f k (x10 ++ (⟨#[0]⟩ : ByteArray)) x1).bind fun bt196 => (if 0 ≤ (wrap64 ((x10.size : Int) - 1)) then (if (wrap64 ((x10.size : Int) - 1)) ≤ (x10.size : Int) then ((tag_Decode.f k (x10.extract 0 ((wrap64 ((x10.size : Int) - 1)) : Int).toNat) x1).bind fun bt206 => (if x1.toList = ([] : List UInt8) then (if x9 = true then (if bt186.2.2.2.2 = 30 then (if bt196.2.2.2.2 = 30 then (some (bt206.2.2.2.2 == 30)) else (some false)) else (some false)) else (some false)) else (if (x1.size : Int) = 0 then (none) else ((clinkerlaw03_change.f k x1 (Int.tmod (wrap64 (x2)) (x1.size : Int)) (wrap64 (1 + (Int.tmod (wrap64 (x3)) 255)))).bind fun t216 => ((tag_Decode.f k x10 t216).bind fun bt217 => (if x9 = true then (if bt217.2.2.2.2 = 30 then (if bt186.2.2.2.2 = 30 then (if bt196.2.2.2.2 = 30 then (some (bt206.2.2.2.2 == 30)) else (some false)) else (some false)) else (some false)) else (some false))))))) else (none)) else (none))) else (none)))))
end
def clinkerlaw03_TagSpoilt.f (k : Nat) (l0 : List Int) (a1 : ByteArray) (a2 : Int) (a3 : Int) : Option (Bool) := (clinkerlaw03_awake.f).bind fun t174 => (if t174 = true then (if (a1.size : Int) > 16 then (if 0 ≤ 16 then (if 16 ≤ (a1.size : Int) then (clinkerlaw03_TagSpoilt.j0 k l0 (a1.extract 0 16) a2 a3 t174) else (none)) else (none)) else (clinkerlaw03_TagSpoilt.j0 k l0 a1 a2 a3 t174)) else (some false))
theorem clinkerlaw03_TagSpoilt.mono_l : ∀ k, (∀ y0 y1 y2 y3 y4, LeO (clinkerlaw03_TagSpoilt.j0 k y0 y1 y2 y3 y4) (clinkerlaw03_TagSpoilt.j0 (k + 1) y0 y1 y2 y3 y4)) ∧ (∀ y0 y1 y2 y3 y4 y5, LeO (clinkerlaw03_TagSpoilt.j1 k y0 y1 y2 y3 y4 y5) (clinkerlaw03_TagSpoilt.j1 (k + 1) y0 y1 y2 y3 y4 y5))
 | 0 => ⟨fun _ _ _ _ _ r h => by simp [clinkerlaw03_TagSpoilt.j0] at h, fun _ _ _ _ _ _ r h => by simp [clinkerlaw03_TagSpoilt.j1] at h⟩
 | k + 1 => by
  obtain ⟨ih0, ih1⟩ := clinkerlaw03_TagSpoilt.mono_l k
  refine ⟨?_, ?_⟩
  ·
   intro y0 y1 y2 y3 y4
   unfold clinkerlaw03_TagSpoilt.j0
   repeat' first
   | (with_reducible exact ih0 _ _ _ _ _)
   | (with_reducible exact ih1 _ _ _ _ _ _)
   | (with_reducible exact clinkerlaw03_change.mono _ _ _ _)
   | (with_reducible exact tag_Decode.mono _ _ _)
   | (with_reducible exact tag_Encode.mono _ _ _ _ _ _)
   | (with_reducible exact LeO.refl _)
   | (with_reducible exact LeO.none _)
   | (with_reducible refine LeO.ite ?_ ?_)
   | (with_reducible refine LeO.bind ?_ (fun _ => ?_))
   | exact ih0 _ _ _ _ _
   | exact ih1 _ _ _ _ _ _
   | exact clinkerlaw03_change.mono _ _ _ _
   | exact tag_Decode.mono _ _ _
   | exact tag_Encode.mono _ _ _ _ _ _
   | exact LeO.none _
   | refine LeO.ite ?_ ?_
   | refine LeO.bind ?_ (fun _ => ?_)
  ·
   intro y0 y1 y2 y3 y4 y5
   unfold clinkerlaw03_TagSpoilt.j1
   repeat' first
   | (with_reducible exact ih0 _ _ _ _ _)
   | (with_reducible exact ih1 _ _ _ _ _ _)
   | (with_reducible exact clinkerlaw03_change.mono _ _ _ _)
   | (with_reducible exact tag_Decode.mono _ _ _)
   | (with_reducible exact tag_Encode.mono _ _ _ _ _ _)
   | (with_reducible exact LeO.refl _)
   | (with_reducible exact LeO.none _)
   | (with_reducible refine LeO.ite ?_ ?_)
   | (with_reducible refine LeO.bind ?_ (fun _ => ?_))
   | exact ih0 _ _ _ _ _
   | exact ih1 _ _ _ _ _ _
   | exact clinkerlaw03_change.mono _ _ _ _
   | exact tag_Decode.mono _ _ _
   | exact tag_Encode.mono _ _ _ _ _ _
   | exact LeO.none _
   | refine LeO.ite ?_ ?_
   | refine LeO.bind ?_ (fun _ => ?_)
theorem clinkerlaw03_TagSpoilt.mono : ∀ a0 a1 a2 a3 k, LeO (clinkerlaw03_TagSpoilt.f k a0 a1 a2 a3) (clinkerlaw03_TagSpoilt.f (k + 1) a0 a1 a2 a3) := by
 intro a0 a1 a2 a3 k
 obtain ⟨ih0, ih1⟩ := clinkerlaw03_TagSpoilt.mono_l k
 unfold clinkerlaw03_TagSpoilt.f
 repeat' first
   | (with_reducible exact ih0 _ _ _ _ _)
   | (with_reducible exact ih1 _ _ _ _ _ _)
   | (with_reducible exact clinkerlaw03_change.mono _ _ _ _)
   | (with_reducible exact tag_Decode.mono _ _ _)
   | (with_reducible exact tag_Encode.mono _ _ _ _ _ _)
   | (with_reducible exact LeO.refl _)
   | (with_reducible exact LeO.none _)
   | (with_reducible refine LeO.ite ?_ ?_)
   | (with_reducible refine LeO.bind ?_ (fun _ => ?_))
   | exact ih0 _ _ _ _ _
   | exact ih1 _ _ _ _ _ _
   | exact clinkerlaw03_change.mono _ _ _ _
   | exact tag_Decode.mono _ _ _
   | exact tag_Encode.mono _ _ _ _ _ _
   | exact LeO.none _
   | refine LeO.ite ?_ ?_
   | refine LeO.bind ?_ (fun _ => ?_)
/-- THE ONE PURE STATEMENT of clinkerlaw03_TagSpoilt: yours. -/
def clinkerlaw03_TagSpoilt.Pure : Prop := ∀ (l0 : List Int) (a1 : ByteArray) (a2 : Int) (a3 : Int), l0.length ≤ maxLen → l0.length * 2 ≤ 140737488351232 → (∀ x ∈ l0, (Lit.int .u16 x).wf = true) → a1.size ≤ 140737488351232 → (Lit.int .u8 a2).wf = true → (Lit.int .u8 a3).wf = true → ∃ k, clinkerlaw03_TagSpoilt.f k l0 a1 a2 a3 = some true
end Go.Proofs.Ytejhgjmapnmigaa.PAll
