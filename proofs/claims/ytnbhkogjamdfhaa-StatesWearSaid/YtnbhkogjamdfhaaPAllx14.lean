/- Written by a program of this session (wip/xp) out of the translation: functions in plain Lean, and proofs that the calls come to these. -/
import Derived.Test.YtnbhkogjamdfhaaPAllx0
import Derived.Test.YtnbhkogjamdfhaaPAllx3
import Derived.Test.YtnbhkogjamdfhaaPAllx5
import Derived.Test.YtnbhkogjamdfhaaPAllx9
import Derived.Test.YtnbhkogjamdfhaaPAllx13
namespace Go.Proofs.Ytnbhkogjamdfhaa.PAll
open Go.RowKit Go.Proofs.YtnbhkogjamdfhaaW.PrintWords Go.Proofs.YtnbhkogjamdfhaaW.PrintLast Go.Proofs.YtnbhkogjamdfhaaW.PrintMore
attribute [local go_sem] max2_int min2_int max_two min_two max_three min_three max_four min_four   -- for this text's walks alone
set_option linter.unusedVariables false
set_option linter.unusedSimpArgs false

theorem rA {α : Type} {d : Kd α} {e : Nat} {w : World} {base : Nat} {ok : Nat → Prop} {v : Value} {xs : List α} (h : d.R e w base ok v xs) (o : Obj) : d.R e (w.alloc o) base ok v xs := Kd.R_alloc h o
theorem rN {α : Type} {d : Kd α} {e : Nat} {w : World} {base : Nat} {ok : Nat → Prop} {v : Value} {xs : List α} (h : d.R e w base ok v xs) (m : Nat) : d.R e (w.drewN m) base ok v xs := Kd.R_drewN h m
theorem rD {α : Type} {d : Kd α} {e : Nat} {w : World} {base : Nat} {ok : Nat → Prop} {v : Value} {xs : List α} (h : d.R e w base ok v xs) : d.R e w.drew base ok v xs := Kd.R_drew h
theorem bN : type_of% @blk_drewN := @blk_drewN
theorem bD : type_of% @blk_drew := @blk_drew
theorem bA : type_of% @blk_alloc := @blk_alloc
theorem vA : type_of% @Kd.V_alloc := @Kd.V_alloc
theorem vN : type_of% @Kd.V_drewN := @Kd.V_drewN
theorem vD : type_of% @Kd.V_drew := @Kd.V_drew
/-! ### clinkerlaw06_Made: function 7 -/
mutual
def clinkerlaw06_Made.l0 : Nat → List Int → Int → Int → Int → List (S45) → Bool → Bool → Int → Option ((List (S45)) × Bool × Bool × Int)
 | 0, _, _, _, _, _, _, _, _ => none
 | k + 1, x0, x1, x9, x10, x231000, x231001, x231002, x231003 => if x10 < 40 then (clinkerlaw06_Made.j1 k x0 x1 x9 x10 (decide (x9 < (x0.length : Int))) x231000 x231001 x231002 x231003) else (clinkerlaw06_Made.j1 k x0 x1 x9 x10 false x231000 x231001 x231002 x231003)
def clinkerlaw06_Made.j1 : Nat → List Int → Int → Int → Int → Bool → List (S45) → Bool → Bool → Int → Option ((List (S45)) × Bool × Bool × Int)
 | 0, _, _, _, _, _, _, _, _, _ => none
 | k + 1, x0, x1, x9, x10, x31, x231000, x231001, x231002, x231003 => if x31 = true then (if 0 ≤ x9 then (if x9 < (x0.length : Int) then (if x1 = 0 then (none) else (if x9 ≤ (mn (wrap64 ((wrap64 (x9 + 1)) + (Int.tmod (wrap64 (Int.tdiv (wrap64 (rd x0 x9)) 50)) 8))) (x0.length : Int)) then (if (mn (wrap64 ((wrap64 (x9 + 1)) + (Int.tmod (wrap64 (Int.tdiv (wrap64 (rd x0 x9)) 50)) 8))) (x0.length : Int)) ≤ (x0.length : Int) then ((clinkerlaw06_Page.f k (Int.tmod (wrap64 (Int.tdiv (wrap64 (rd x0 x9)) 7)) 30) ((x0.take ((mn (wrap64 ((wrap64 (x9 + 1)) + (Int.tmod (wrap64 (Int.tdiv (wrap64 (rd x0 x9)) 50)) 8))) (x0.length : Int)) : Int).toNat).drop (x9 : Int).toNat)).bind fun bt233 => (if (Int.tmod (wrap64 (rd x0 x9)) 11) = 0 then (clinkerlaw06_Made.j2 k x0 x1 x9 x10 (wrap64 (rd x0 x9)) (Int.tmod (wrap64 (rd x0 x9)) x1) (mn (wrap64 ((wrap64 (x9 + 1)) + (Int.tmod (wrap64 (Int.tdiv (wrap64 (rd x0 x9)) 50)) 8))) (x0.length : Int)) x231000 x231001 x231002 x231003 bt233.1 bt233.2.1 bt233.2.2 1 (⟨#[120]⟩ : ByteArray) bt233.2.2 0) else (clinkerlaw06_Made.j2 k x0 x1 x9 x10 (wrap64 (rd x0 x9)) (Int.tmod (wrap64 (rd x0 x9)) x1) (mn (wrap64 ((wrap64 (x9 + 1)) + (Int.tmod (wrap64 (Int.tdiv (wrap64 (rd x0 x9)) 50)) 8))) (x0.length : Int)) x231000 x231001 x231002 x231003 bt233.1 bt233.2.1 bt233.2.2 0 (⟨#[]⟩ : ByteArray) (⟨#[]⟩ : ByteArray) 0))) else (none)) else (none))) else (none)) else (none)) else (some (x231000, x231001, x231002, x231003))
def clinkerlaw06_Made.j2 : Nat → List Int → Int → Int → Int → Int → Int → Int → List (S45) → Bool → Bool → Int → Bool → ByteArray → ByteArray → Int → ByteArray → ByteArray → Int → Option ((List (S45)) × Bool × Bool × Int)
 | 0, _, _, _, _, _, _, _, _, _, _, _, _, _, _, _, _, _, _ => none
 | k + 1, x0, x1, x9, x10, x11, x12, x13, x231000, x231001, x231002, x231003, x237000, x237001, x237002, x238000, x238001, x238002, x238003 => if (Int.tmod x11 29) = 0 then ((clinkerref05_Erase.f x231000 x231001 x231002 x231003 x12 0 (⟨#[]⟩ : ByteArray) (⟨#[]⟩ : ByteArray) 0).bind fun bt238 => (if 0 ≤ x12 then (if x12 < (bt238.1.length : Int) then ((clinkerref05_Program.f bt238.1 bt238.2.1 bt238.2.2.1 bt238.2.2.2.1 x12 ((rd_T45 bt238.1 x12).f1) x237000 x237001 x237002 x238000 x238001 x238002 x238003).bind fun bt246 => (if bt246.2.2.2.2 = 1 then (clinkerlaw06_Made.l0 k x0 x1 (mx x13 (wrap64 (x9 + 1))) (wrap64 (x10 + 1)) bt238.1 bt238.2.1 bt238.2.2.1 bt238.2.2.2.1) else (clinkerlaw06_Made.l0 k x0 x1 (mx x13 (wrap64 (x9 + 1))) (wrap64 (x10 + 1)) bt246.1 bt246.2.1 bt246.2.2.1 bt246.2.2.2.1))) else (none)) else (none))) else (if 0 ≤ x12 then (if x12 < (x231000.length : Int) then ((clinkerref05_Program.f x231000 x231001 x231002 x231003 x12 ((rd_T45 x231000 x12).f1) x237000 x237001 x237002 x238000 x238001 x238002 x238003).bind fun bt255 => (if bt255.2.2.2.2 = 1 then (clinkerlaw06_Made.l0 k x0 x1 (mx x13 (wrap64 (x9 + 1))) (wrap64 (x10 + 1)) x231000 x231001 x231002 x231003) else (clinkerlaw06_Made.l0 k x0 x1 (mx x13 (wrap64 (x9 + 1))) (wrap64 (x10 + 1)) bt255.1 bt255.2.1 bt255.2.2.1 bt255.2.2.2.1))) else (none)) else (none))
end
def clinkerlaw06_Made.f (k : Nat) (l0 : List Int) (a1 : Int) (a2 : Int) : Option ((List (S45)) × Bool × Bool × Int) := (clinkerref05_New.f a1 a2 ([] : List Int)).bind fun bt223 => (clinkerlaw06_Made.l0 k l0 a1 0 0 bt223.1 bt223.2.1 bt223.2.2.1 bt223.2.2.2.1)
theorem clinkerlaw06_Made.mono_l : ∀ k, (∀ y0 y1 y2 y3 y4 y5 y6 y7, LeO (clinkerlaw06_Made.l0 k y0 y1 y2 y3 y4 y5 y6 y7) (clinkerlaw06_Made.l0 (k + 1) y0 y1 y2 y3 y4 y5 y6 y7)) ∧ (∀ y0 y1 y2 y3 y4 y5 y6 y7 y8, LeO (clinkerlaw06_Made.j1 k y0 y1 y2 y3 y4 y5 y6 y7 y8) (clinkerlaw06_Made.j1 (k + 1) y0 y1 y2 y3 y4 y5 y6 y7 y8)) ∧ (∀ y0 y1 y2 y3 y4 y5 y6 y7 y8 y9 y10 y11 y12 y13 y14 y15 y16 y17, LeO (clinkerlaw06_Made.j2 k y0 y1 y2 y3 y4 y5 y6 y7 y8 y9 y10 y11 y12 y13 y14 y15 y16 y17) (clinkerlaw06_Made.j2 (k + 1) y0 y1 y2 y3 y4 y5 y6 y7 y8 y9 y10 y11 y12 y13 y14 y15 y16 y17))
 | 0 => ⟨fun _ _ _ _ _ _ _ _ r h => by simp [clinkerlaw06_Made.l0] at h, fun _ _ _ _ _ _ _ _ _ r h => by simp [clinkerlaw06_Made.j1] at h, fun _ _ _ _ _ _ _ _ _ _ _ _ _ _ _ _ _ _ r h => by simp [clinkerlaw06_Made.j2] at h⟩
 | k + 1 => by
  obtain ⟨ih0, ih1, ih2⟩ := clinkerlaw06_Made.mono_l k
  refine ⟨?_, ?_, ?_⟩
  ·
   intro y0 y1 y2 y3 y4 y5 y6 y7
   unfold clinkerlaw06_Made.l0
   repeat' first
   | (with_reducible exact ih0 _ _ _ _ _ _ _ _)
   | (with_reducible exact ih1 _ _ _ _ _ _ _ _ _)
   | (with_reducible exact ih2 _ _ _ _ _ _ _ _ _ _ _ _ _ _ _ _ _ _)
   | (with_reducible exact clinkerlaw06_Page.mono _ _ _)
   | (with_reducible exact LeO.refl _)
   | (with_reducible exact LeO.none _)
   | (with_reducible refine LeO.ite ?_ ?_)
   | (with_reducible refine LeO.bind ?_ (fun _ => ?_))
   | exact ih0 _ _ _ _ _ _ _ _
   | exact ih1 _ _ _ _ _ _ _ _ _
   | exact ih2 _ _ _ _ _ _ _ _ _ _ _ _ _ _ _ _ _ _
   | exact clinkerlaw06_Page.mono _ _ _
   | exact LeO.none _
   | refine LeO.ite ?_ ?_
   | refine LeO.bind ?_ (fun _ => ?_)
  ·
   intro y0 y1 y2 y3 y4 y5 y6 y7 y8
   unfold clinkerlaw06_Made.j1
   repeat' first
   | (with_reducible exact ih0 _ _ _ _ _ _ _ _)
   | (with_reducible exact ih1 _ _ _ _ _ _ _ _ _)
   | (with_reducible exact ih2 _ _ _ _ _ _ _ _ _ _ _ _ _ _ _ _ _ _)
   | (with_reducible exact clinkerlaw06_Page.mono _ _ _)
   | (with_reducible exact LeO.refl _)
   | (with_reducible exact LeO.none _)
   | (with_reducible refine LeO.ite ?_ ?_)
   | (with_reducible refine LeO.bind ?_ (fun _ => ?_))
   | exact ih0 _ _ _ _ _ _ _ _
   | exact ih1 _ _ _ _ _ _ _ _ _
   | exact ih2 _ _ _ _ _ _ _ _ _ _ _ _ _ _ _ _ _ _
   | exact clinkerlaw06_Page.mono _ _ _
   | exact LeO.none _
   | refine LeO.ite ?_ ?_
   | refine LeO.bind ?_ (fun _ => ?_)
  ·
   intro y0 y1 y2 y3 y4 y5 y6 y7 y8 y9 y10 y11 y12 y13 y14 y15 y16 y17
   unfold clinkerlaw06_Made.j2
   repeat' first
   | (with_reducible exact ih0 _ _ _ _ _ _ _ _)
   | (with_reducible exact ih1 _ _ _ _ _ _ _ _ _)
   | (with_reducible exact ih2 _ _ _ _ _ _ _ _ _ _ _ _ _ _ _ _ _ _)
   | (with_reducible exact clinkerlaw06_Page.mono _ _ _)
   | (with_reducible exact LeO.refl _)
   | (with_reducible exact LeO.none _)
   | (with_reducible refine LeO.ite ?_ ?_)
   | (with_reducible refine LeO.bind ?_ (fun _ => ?_))
   | exact ih0 _ _ _ _ _ _ _ _
   | exact ih1 _ _ _ _ _ _ _ _ _
   | exact ih2 _ _ _ _ _ _ _ _ _ _ _ _ _ _ _ _ _ _
   | exact clinkerlaw06_Page.mono _ _ _
   | exact LeO.none _
   | refine LeO.ite ?_ ?_
   | refine LeO.bind ?_ (fun _ => ?_)
theorem clinkerlaw06_Made.mono : ∀ a0 a1 a2 k, LeO (clinkerlaw06_Made.f k a0 a1 a2) (clinkerlaw06_Made.f (k + 1) a0 a1 a2) := by
 intro a0 a1 a2 k
 obtain ⟨ih0, ih1, ih2⟩ := clinkerlaw06_Made.mono_l k
 unfold clinkerlaw06_Made.f
 repeat' first
   | (with_reducible exact ih0 _ _ _ _ _ _ _ _)
   | (with_reducible exact ih1 _ _ _ _ _ _ _ _ _)
   | (with_reducible exact ih2 _ _ _ _ _ _ _ _ _ _ _ _ _ _ _ _ _ _)
   | (with_reducible exact clinkerlaw06_Page.mono _ _ _)
   | (with_reducible exact LeO.refl _)
   | (with_reducible exact LeO.none _)
   | (with_reducible refine LeO.ite ?_ ?_)
   | (with_reducible refine LeO.bind ?_ (fun _ => ?_))
   | exact ih0 _ _ _ _ _ _ _ _
   | exact ih1 _ _ _ _ _ _ _ _ _
   | exact ih2 _ _ _ _ _ _ _ _ _ _ _ _ _ _ _ _ _ _
   | exact clinkerlaw06_Page.mono _ _ _
   | exact LeO.none _
   | refine LeO.ite ?_ ?_
   | refine LeO.bind ?_ (fun _ => ?_)
def clinkerlaw06_Made.T15 : Bool × List (List Nat × List Nat) := (true, [([], []), ([], []), ([], []), ([2], [2]), ([], []), ([3, 4], [3, 4]), ([5], [5]), ([6], [6]), ([], []), ([], []), ([0, 1, 7, 8, 9], [0, 1, 7, 8, 9]), ([10], [10]), ([11], [11]), ([11], [11]), ([], []), ([14, 12, 10, 0, 1, 2, 3, 4, 5, 6, 7, 8, 9, 10, 11, 12, 14], [12, 14]), ([13, 15, 0, 1, 2, 3, 4, 5, 6, 7, 8, 9, 10, 11, 12, 13, 14, 15], [13])])
def clinkerlaw06_Made.B15 : List Nat := [0, 0, 0, 4, 0, 28, 60, 124, 0, 0, 1023, 2047, 4095, 4095, 0, 24575, 65535]
theorem clinkerlaw06_Made.tab15 : rtab .any (opsOf Try.f7 15) = clinkerlaw06_Made.T15 := by kernel_rfl
theorem clinkerlaw06_Made.bits15 : waitsOk clinkerlaw06_Made.T15.2 clinkerlaw06_Made.B15 = true := by kernel_rfl
theorem vaw {W : World} {e base n c g : Nat} {ok : Nat → Prop} {ad : Addr} {xs : List S45} (h : Kd.V k45 e W base ok (.slice (some ad) n c) xs) (j : Int) (h0 : 0 ≤ j) (h1 : j < (xs.length : Int)) (hok : ∀ k, ok k → k ≠ g) : ad.block ≠ g := by
  intro he
  have hn := (Kd.V_at h).1
  have hF := Kd.V_F h
  have hC := hF { W with heap := W.heap.setIfInBounds g (.deferred none) } (fun k hk _ => Array.getElem?_setIfInBounds_ne (Ne.symm (hok k hk)))
  obtain ⟨ad', A0, c0, hA, z0, _⟩ := at_T45 hC j h0 (by omega)
  cases hA
  have hb : (ad.add (j.toNat * 4)).block = g := (add_block _ _).trans he
  unfold World.cell? at z0
  rw [hb] at z0
  by_cases hg : g < W.heap.size
  · simp [hg] at z0
  · simp [hg] at z0
set_option maxHeartbeats 8000000 in
set_option maxRecDepth 100000 in
theorem clinkerlaw06_Made.calls (k : Nat) (A0 : Option Addr) (c0 : Nat) (l0 : List Int) (a1 : Int) (a2 : Int) (r1 : List (S45)) (r2 : Bool) (r3 : Bool) (r4 : Int) (w : World) (hr0 : Kd.C (Kd.int .u16) w A0 l0.length l0) (hc0 : l0.length ≤ c0) (h : clinkerlaw06_Made.f k l0 a1 a2 = some (r1, r2, r3, r4)) :
  Calls Try.prog 7 #[.slice A0 l0.length c0, .int .i64 a1, .int .i64 a2] w fun e w' => ∃ v0_ : Value, e = .returned (.agg #[v0_, .bool r2, .bool r3, .int .i64 r4]) ∧ Kd.V k45 45 w' w.heap.size (fun k_ => (w.heap.size ≤ k_)) v0_ r1 ∧ Below w.heap.size w w' := by
 have hu26 := Try.underlying26
 have hu42 := Try.underlying42
 have hu33 := Try.underlying33
 have HR0 := Aside0.mk hr0
 have HC0 := Aside0.mk hc0
 clear hr0 hc0
 have HB := Aside0.mk (Below.refl w.heap.size w)
 have H : ((clinkerref05_New.f a1 a2 ([] : List Int)).bind fun bt223 => (clinkerlaw06_Made.l0 k l0 a1 0 0 bt223.1 bt223.2.1 bt223.2.2.1 bt223.2.2.2.1)) = some (r1, r2, r3, r4) := h
 clear h
 replace H := Option.bind_eq_some_iff.mp H
 obtain ⟨⟨t223, t226, t227, t228, t229⟩, A40, H⟩ := H
 replace H : (clinkerlaw06_Made.l0 k l0 a1 0 0 t223 t226 t227 t228) = some (r1, r2, r3, r4) := H
 have A4 := Aside0.mk A40
 clear A40
 have H' := Aside0.mk H
 clear H
 go_enter Try.func7, Try.ntmps7
 go_wp2_with (first | ((with_reducible refine gate_dst (N := 6) rfl ?_); (try (refine gate_guard (by rfl) ?_; dsimp only)); refine box_event ?hg (N := 6) ?hd (cs := #[.slice none 0 0, .bool false, .bool false, .int .i64 0]) (t := 26) ?hr ?_; (case hd => rfl); (case hg => rfl); (case hr => first | (go_simp; done) | (go_simp; rfl)); intro gb222 hg w5 hbox hb; have n0_ := Aside0.mk (below_step (by repeat (first | exact HB.out | apply below_alloc | apply pw_below_drewN | apply below_drew1)) hb); have n1_ := Aside0.mk (hbox); have n2_ := Aside0.mk ((by rw [hg]; exact (below_size (by repeat (first | exact HB.out | apply below_alloc | apply pw_below_drewN | apply below_drew1))) : w.heap.size ≤ gb222)); have n3_ := Aside0.mk ((by rw [hg]; exact (below_size (by repeat (first | exact HB.out | apply below_alloc | apply pw_below_drewN | apply below_drew1))) : w.heap.size ≤ gb222)); clear HB; have HB := n0_; have BK222 := n1_; have GW222 := n2_; have GE222 := n3_; clear n0_ n1_ n2_ n3_; clear hb hbox hg) | ((with_reducible refine gate_callee (f := 11) rfl ?_); refine goesL_ (some 21) rfl rfl Try.func11 (by kernel_rfl) rfl #[.int .i64 a1, .int .i64 a2, .slice none 0 0] rfl (by (try simp only [List.map_toArray, List.map_cons, List.map_nil]); first | done | rfl | (simp only [List.length_drop, List.length_take]; rfl)) ?_; (refine (clinkerref05_New.calls a1 a2 _ _ ([] : List Int) t223 t226 t227 t228 t229 _ ?side1 ?side2 A4.out).mono ?_); (case side1 => exact Kd.C_nil _ _); (case side2 => exact Nat.le_refl _); rintro e w6 ⟨v224, rfl, ho0, hb⟩; refine ⟨_, rfl, ?_⟩; have n0_ := Aside0.mk (Kd.V_lower (Kd.V_mono (ok' := fun k_ => (w.heap.size ≤ k_) ∧ k_ ≠ gb222) ho0 (fun k_ hk_ => ⟨(Nat.le_trans (below_size (by repeat (first | exact HB.out | apply below_alloc | apply pw_below_drewN | apply below_drew1 | refine below_set ?_ GE222.out))) hk_), (Kd.freshB (g := gb222) (o := .cells #[.slice none 0 0, .bool false, .bool false, .int .i64 0] 26 (0, 0)) (by (with_reducible repeat (first | apply bN | apply bD | apply bA)); exact BK222.out) k_ hk_)⟩)) (below_size (by repeat (first | exact HB.out | apply below_alloc | apply pw_below_drewN | apply below_drew1 | refine below_set ?_ GE222.out)))); have n1_ := Aside0.mk (blk_below (g := gb222) (o := .cells #[.slice none 0 0, .bool false, .bool false, .int .i64 0] 26 (0, 0)) (by (with_reducible repeat (first | apply bN | apply bD | apply bA)); exact BK222.out) hb); have n2_ := Aside0.mk (below_step (by repeat (first | exact HB.out | apply below_alloc | apply pw_below_drewN | apply below_drew1 | refine below_set ?_ GE222.out)) hb); clear BK222; clear HB; have HO225 := n0_; have BK222 := n1_; have HB := n2_; clear n0_ n1_ n2_; (try clear hb); (try clear hb2); (try clear hk); (try clear hi); (try clear ho0)) | ((with_reducible refine gate_dst (N := 7) rfl ?_); (try (refine gate_guard (by rfl) ?_; dsimp only)); refine box_event ?hg (N := 7) ?hd (cs := #[.slice none 0 0, .bool false, .bool false, .int .i64 0]) (t := 26) ?hr ?_; (case hd => rfl); (case hg => rfl); (case hr => first | (go_simp; done) | (go_simp; rfl)); intro gb230 hg w7 hbox hb; have n0_ := Aside0.mk (Kd.V_below (Kd.V_elderB (by (with_reducible repeat (first | apply vA | apply vN | apply vD)); exact HO225.out) gb230 (Nat.le_of_eq hg.symm)) hb); have n1_ := Aside0.mk (blk_below (g := gb222) (o := .cells #[.slice none 0 0, .bool false, .bool false, .int .i64 0] 26 (0, 0)) (by (with_reducible repeat (first | apply bN | apply bD | apply bA)); exact BK222.out) hb); have n2_ := Aside0.mk (below_step (by repeat (first | exact HB.out | apply below_alloc | apply pw_below_drewN | apply below_drew1 | refine below_set ?_ GE222.out)) hb); have n3_ := Aside0.mk (hbox); have n4_ := Aside0.mk ((by rw [hg]; exact (below_size (by repeat (first | exact HB.out | apply below_alloc | apply pw_below_drewN | apply below_drew1 | refine below_set ?_ GE222.out))) : w.heap.size ≤ gb230)); have n5_ := Aside0.mk ((by rw [hg]; exact (below_size (by repeat (first | exact HB.out | apply below_alloc | apply pw_below_drewN | apply below_drew1 | refine below_set ?_ GE222.out))) : w.heap.size ≤ gb230)); have n6_ := Aside0.mk ((by rw [hg]; exact Nat.ne_of_lt (blk_lt (g := gb222) (o := .cells #[.slice none 0 0, .bool false, .bool false, .int .i64 0] 26 (0, 0)) (by (with_reducible repeat (first | apply bN | apply bD | apply bA)); exact BK222.out)) : gb222 ≠ gb230)); have n7_ := Aside0.mk ((by rw [hg]; exact Nat.ne_of_gt (blk_lt (g := gb222) (o := .cells #[.slice none 0 0, .bool false, .bool false, .int .i64 0] 26 (0, 0)) (by (with_reducible repeat (first | apply bN | apply bD | apply bA)); exact BK222.out)) : gb230 ≠ gb222)); clear HO225; clear BK222; clear HB; have HO225 := n0_; have BK222 := n1_; have HB := n2_; have BK230 := n3_; have GW230 := n4_; have GE230 := n5_; have NB222_230 := n6_; have NB230_222 := n7_; clear n0_ n1_ n2_ n3_ n4_ n5_ n6_ n7_; clear hb hbox hg; obtain ⟨Ao8, co8, eo8⟩ := Kd.V_slice HO225.out; subst eo8; have hnb9 := NB230_222.out; have hnc9 := NB222_230.out; have hcz10_0 : w7.cell? ⟨gb230, 0, none⟩ = some (.slice none 0 0) := (blk_cell BK230.out 0).trans rfl; have hcz10_1 : w7.cell? ⟨gb230, 1, none⟩ = some (.bool false) := (blk_cell BK230.out 1).trans rfl; have hcz10_2 : w7.cell? ⟨gb230, 2, none⟩ = some (.bool false) := (blk_cell BK230.out 2).trans rfl; have hcz10_3 : w7.cell? ⟨gb230, 3, none⟩ = some (.int .i64 0) := (blk_cell BK230.out 3).trans rfl; have hfz10_0 := blk_frozen BK230.out 0; have hfz10_1 := blk_frozen BK230.out 1; have hfz10_2 := blk_frozen BK230.out 2; have hfz10_3 := blk_frozen BK230.out 3))
 go_loopg [9, 10] k (fun kq v9 v10 w' => ∃ (x9_1 : Int) (x10_1 : Int) (x231000_1 : List (S45)) (x231001_1 : Bool) (x231002_1 : Bool) (x231003_1 : Int) (u231000 : Value), v9 = .int .i64 x9_1 ∧ v10 = .int .i64 x10_1 ∧ Aside0 (clinkerlaw06_Made.l0 kq l0 a1 x9_1 x10_1 x231000_1 x231001_1 x231002_1 x231003_1 = some (r1, r2, r3, r4)) ∧ Aside0 (kq ≤ k) ∧ Aside0 (Kd.V k45 45 w' w.heap.size (fun k_ => (w.heap.size ≤ k_) ∧ k_ ≠ gb222 ∧ k_ ≠ gb230) u231000 x231000_1) ∧ Aside0 (w'.heap[gb222]? = some (.cells #[(.slice none 0 0), .bool false, .bool false, .int .i64 0] 26 (0, 0))) ∧ Aside0 (w'.heap[gb230]? = some (.cells #[u231000, .bool x231001_1, .bool x231002_1, .int .i64 x231003_1] 26 (0, 0))) ∧ Aside0 (Below w.heap.size w w'))
 case atStart => exact ⟨(0), (0), (t223), (t226), (t227), (t228), (.slice Ao8 t223.length co8), (by first | rfl | (simp; done) | (simp [*]; done)), (by first | rfl | (simp; done) | (simp [*]; done)), H', ⟨Nat.le_refl _⟩, ⟨by (with_reducible repeat (first | apply vA | apply vN | apply vD)); exact Kd.V_mono (Kd.V_far (p := ⟨gb230, 3, none⟩) (Kd.V_far (p := ⟨gb230, 2, none⟩) (Kd.V_far (p := ⟨gb230, 1, none⟩) (Kd.V_far (p := ⟨gb230, 0, none⟩) (Kd.V_mono HO225.out (fun k_ hk => (⟨hk, hk.2⟩ : _ ∧ k_ ≠ gb230))) (fun _ hk => hk.2) _) (fun _ hk => hk.2) (.bool t226)) (fun _ hk => hk.2) (.bool t227)) (fun _ hk => hk.2) _) (fun _ hk => ⟨hk.1.1.1, ⟨hk.1.1.2, hk.1.2⟩⟩)⟩, ⟨by (with_reducible repeat (first | apply bN | apply bD | apply bA)); refine blk_far ?_ NB222_230.out _; (with_reducible repeat (first | apply bN | apply bD | apply bA)); refine blk_far ?_ NB222_230.out _; (with_reducible repeat (first | apply bN | apply bD | apply bA)); refine blk_far ?_ NB222_230.out _; (with_reducible repeat (first | apply bN | apply bD | apply bA)); refine blk_far ?_ NB222_230.out _; (with_reducible repeat (first | apply bN | apply bD | apply bA)); exact BK222.out⟩, ⟨by (with_reducible repeat (first | apply bN | apply bD | apply bA)); refine blk_put (cs := #[.slice Ao8 t223.length co8, .bool t226, .bool t227, .int .i64 0]) ?_ 3 _ rfl; (with_reducible repeat (first | apply bN | apply bD | apply bA)); refine blk_put (cs := #[.slice Ao8 t223.length co8, .bool t226, .bool false, .int .i64 0]) ?_ 2 _ rfl; (with_reducible repeat (first | apply bN | apply bD | apply bA)); refine blk_put (cs := #[.slice Ao8 t223.length co8, .bool false, .bool false, .int .i64 0]) ?_ 1 _ rfl; (with_reducible repeat (first | apply bN | apply bD | apply bA)); refine blk_put (cs := #[.slice none 0 0, .bool false, .bool false, .int .i64 0]) ?_ 0 _ rfl; (with_reducible repeat (first | apply bN | apply bD | apply bA)); exact BK230.out⟩, ⟨by repeat (first | (with_reducible first | exact HB.out | apply below_alloc | apply pw_below_drewN | apply below_drew1 | refine below_set ?_ GE222.out | refine below_set ?_ GE230.out) | exact HB.out)⟩⟩
 case round =>
  clear H'
  try clear c1
  try clear p2
  try clear c7
  try clear c9
  try clear hcz10_0
  try clear hcz10_1
  try clear hcz10_2
  try clear hcz10_3
  try clear hfz10_0
  try clear hfz10_1
  try clear hfz10_2
  try clear hfz10_3
  obtain ⟨x9_1, x10_1, x231000_1, x231001_1, x231002_1, x231003_1, u231000, rfl, rfl, HA, HK1, HO_231000, BK222, BK230, HB⟩ := hrel
  cases gk with
  | zero => exact absurd HA.out (by simp [clinkerlaw06_Made.l0])
  | succ k1 =>
   have H := HA.out
   clear HA
   simp only [clinkerlaw06_Made.l0] at H
   have HC11 := Aside0.mk H
   clear H
   go_upto_region 4 with (fail)
   go_cut [31] (fun v31 wc => ∃ (kq : Nat) (x31_10 : Bool), v31 = .bool x31_10 ∧ Aside0 (clinkerlaw06_Made.j1 kq l0 a1 x9_1 x10_1 x31_10 x231000_1 x231001_1 x231002_1 x231003_1 = some (r1, r2, r3, r4)) ∧ Aside0 (kq ≤ k1) ∧ Aside0 (Kd.V k45 45 wc w.heap.size (fun k_ => (w.heap.size ≤ k_) ∧ k_ ≠ gb222 ∧ k_ ≠ gb230) u231000 x231000_1) ∧ Aside0 (wc.heap[gb222]? = some (.cells #[(.slice none 0 0), .bool false, .bool false, .int .i64 0] 26 (0, 0))) ∧ Aside0 (wc.heap[gb230]? = some (.cells #[u231000, .bool x231001_1, .bool x231002_1, .int .i64 x231003_1] 26 (0, 0))) ∧ Aside0 (Below w.heap.size w wc))
   case first =>
    have H := HC11.out
    clear HC11
    by_cases c12 : x10_1 < 40
    ·
     rw [if_pos c12] at H
     have c12b0 : decide (x10_1 < 40) = true := decide_eq_true c12
     clear c12
     (first | rw [c12b0] | (simp only [i64_w, i32_w]; rw [c12b0]) | skip)
     have H' := Aside0.mk H
     clear H
     go_wp2
     go_meet
     case rel => exact ⟨_, (decide (x9_1 < (l0.length : Int))), (by first | rfl | (simp; done) | (simp [*]; done)), H', ⟨by have := HK1.out; first | omega | exact Nat.le_refl _⟩, ⟨by (with_reducible repeat (first | apply vA | apply vN | apply vD)); exact HO_231000.out⟩, ⟨by (with_reducible repeat (first | apply bN | apply bD | apply bA)); exact BK222.out⟩, ⟨by (with_reducible repeat (first | apply bN | apply bD | apply bA)); exact BK230.out⟩, ⟨by repeat (first | (with_reducible first | exact HB.out | apply below_alloc | apply pw_below_drewN | apply below_drew1 | refine below_set ?_ GE222.out | refine below_set ?_ GE230.out) | exact HB.out)⟩⟩
    ·
     rw [if_neg c12] at H
     have c12b0 : decide (x10_1 < 40) = false := decide_eq_false c12
     clear c12
     (first | rw [c12b0] | (simp only [i64_w, i32_w]; rw [c12b0]) | skip)
     have H' := Aside0.mk H
     clear H
     go_wp2
     go_meet
     case rel => exact ⟨_, (false), (by first | rfl | (simp; done) | (simp [*]; done)), H', ⟨by have := HK1.out; first | omega | exact Nat.le_refl _⟩, ⟨by (with_reducible repeat (first | apply vA | apply vN | apply vD)); exact HO_231000.out⟩, ⟨by (with_reducible repeat (first | apply bN | apply bD | apply bA)); exact BK222.out⟩, ⟨by (with_reducible repeat (first | apply bN | apply bD | apply bA)); exact BK230.out⟩, ⟨by repeat (first | (with_reducible first | exact HB.out | apply below_alloc | apply pw_below_drewN | apply below_drew1 | refine below_set ?_ GE222.out | refine below_set ?_ GE230.out) | exact HB.out)⟩⟩
   case rest =>
    clear HC11
    try clear c1
    try clear p2
    try clear c7
    try clear c9
    try clear c11
    try clear c12
    try clear c12b0
    try clear hcz10_0
    try clear hcz10_1
    try clear hcz10_2
    try clear hcz10_3
    try clear hfz10_0
    try clear hfz10_1
    try clear hfz10_2
    try clear hfz10_3
    try clear p2
    obtain ⟨kq, x31_10, rfl, HA, HJ10, HO_231000, BK222, BK230, HB⟩ := hcut
    cases kq with
    | zero => exact absurd HA.out (by simp [clinkerlaw06_Made.j1])
    | succ kj10 =>
     have H := HA.out
     clear HA
     simp only [clinkerlaw06_Made.j1] at H
     by_cases c13 : x31_10 = true
     ·
      subst c13
      have H1 : (if 0 ≤ x9_1 then (if x9_1 < (l0.length : Int) then (if a1 = 0 then (none) else (if x9_1 ≤ (mn (wrap64 ((wrap64 (x9_1 + 1)) + (Int.tmod (wrap64 (Int.tdiv (wrap64 (rd l0 x9_1)) 50)) 8))) (l0.length : Int)) then (if (mn (wrap64 ((wrap64 (x9_1 + 1)) + (Int.tmod (wrap64 (Int.tdiv (wrap64 (rd l0 x9_1)) 50)) 8))) (l0.length : Int)) ≤ (l0.length : Int) then ((clinkerlaw06_Page.f kj10 (Int.tmod (wrap64 (Int.tdiv (wrap64 (rd l0 x9_1)) 7)) 30) ((l0.take ((mn (wrap64 ((wrap64 (x9_1 + 1)) + (Int.tmod (wrap64 (Int.tdiv (wrap64 (rd l0 x9_1)) 50)) 8))) (l0.length : Int)) : Int).toNat).drop (x9_1 : Int).toNat)).bind fun bt233 => (if (Int.tmod (wrap64 (rd l0 x9_1)) 11) = 0 then (clinkerlaw06_Made.j2 kj10 l0 a1 x9_1 x10_1 (wrap64 (rd l0 x9_1)) (Int.tmod (wrap64 (rd l0 x9_1)) a1) (mn (wrap64 ((wrap64 (x9_1 + 1)) + (Int.tmod (wrap64 (Int.tdiv (wrap64 (rd l0 x9_1)) 50)) 8))) (l0.length : Int)) x231000_1 x231001_1 x231002_1 x231003_1 bt233.1 bt233.2.1 bt233.2.2 1 (⟨#[120]⟩ : ByteArray) bt233.2.2 0) else (clinkerlaw06_Made.j2 kj10 l0 a1 x9_1 x10_1 (wrap64 (rd l0 x9_1)) (Int.tmod (wrap64 (rd l0 x9_1)) a1) (mn (wrap64 ((wrap64 (x9_1 + 1)) + (Int.tmod (wrap64 (Int.tdiv (wrap64 (rd l0 x9_1)) 50)) 8))) (l0.length : Int)) x231000_1 x231001_1 x231002_1 x231003_1 bt233.1 bt233.2.1 bt233.2.2 0 (⟨#[]⟩ : ByteArray) (⟨#[]⟩ : ByteArray) 0))) else (none)) else (none))) else (none)) else (none)) = some (r1, r2, r3, r4) := by rw [if_pos rfl] at H; exact H
      clear H
      have H := H1
      clear H1
      by_cases c14 : 0 ≤ x9_1
      ·
       rw [if_pos c14] at H
       have c14b0 : decide (0 ≤ x9_1) = true := decide_eq_true c14
       clear c14
       by_cases c15 : x9_1 < (l0.length : Int)
       ·
        rw [if_pos c15] at H
        have c15b0 : decide (x9_1 < (l0.length : Int)) = true := decide_eq_true c15
        clear c15
        by_cases c16 : a1 = 0
        ·
         rw [if_pos c16] at H
         exact absurd H (by simp)
        ·
         rw [if_neg c16] at H
         have c16b0 : (a1 == 0) = false := beq_eq_false_iff_ne.mpr c16
         have c16b1 : (a1 != 0) = true := bne_iff_ne.mpr c16
         obtain ⟨ji17, hji17⟩ : ∃ j_ : Int, (mn (wrap64 ((wrap64 (x9_1 + 1)) + (Int.tmod (wrap64 (Int.tdiv (wrap64 (rd l0 x9_1)) 50)) 8))) (l0.length : Int)) = j_ := ⟨_, rfl⟩
         replace H : (if x9_1 ≤ (ji17) then (if (ji17) ≤ (l0.length : Int) then ((clinkerlaw06_Page.f kj10 (Int.tmod (wrap64 (Int.tdiv (wrap64 (rd l0 x9_1)) 7)) 30) ((l0.take ((ji17) : Int).toNat).drop (x9_1 : Int).toNat)).bind fun bt233 => (if (Int.tmod (wrap64 (rd l0 x9_1)) 11) = 0 then (clinkerlaw06_Made.j2 kj10 l0 a1 x9_1 x10_1 (wrap64 (rd l0 x9_1)) (Int.tmod (wrap64 (rd l0 x9_1)) a1) ji17 x231000_1 x231001_1 x231002_1 x231003_1 bt233.1 bt233.2.1 bt233.2.2 1 (⟨#[120]⟩ : ByteArray) bt233.2.2 0) else (clinkerlaw06_Made.j2 kj10 l0 a1 x9_1 x10_1 (wrap64 (rd l0 x9_1)) (Int.tmod (wrap64 (rd l0 x9_1)) a1) ji17 x231000_1 x231001_1 x231002_1 x231003_1 bt233.1 bt233.2.1 bt233.2.2 0 (⟨#[]⟩ : ByteArray) (⟨#[]⟩ : ByteArray) 0))) else (none)) else (none)) = some (r1, r2, r3, r4) := by first | (rw [hji17] at H; exact H) | (simp only [hji17] at H ⊢; exact H)
         have hji17_ : (if (l0.length : Int) < (wrap64 ((wrap64 (x9_1 + 1)) + (Int.tmod (wrap64 (Int.tdiv (wrap64 (rd l0 x9_1)) 50)) 8))) then (l0.length : Int) else (wrap64 ((wrap64 (x9_1 + 1)) + (Int.tmod (wrap64 (Int.tdiv (wrap64 (rd l0 x9_1)) 50)) 8)))) = ji17 := hji17
         have c18b0 := eq_true (of_decide_eq_true (by first | (with_reducible assumption) | assumption) : 0 ≤ x9_1)
         by_cases c19 : x9_1 ≤ (ji17)
         ·
          rw [if_pos c19] at H
          have c19b0 := eq_true c19
          have c19b1 : decide (x9_1 ≤ (ji17)) = true := decide_eq_true c19
          clear c19
          by_cases c20 : (ji17) ≤ (l0.length : Int)
          ·
           rw [if_pos c20] at H
           have c20b0 := eq_true c20
           have c20b1 : decide ((ji17) ≤ (l0.length : Int)) = true := decide_eq_true c20
           clear c20
           replace H := Option.bind_eq_some_iff.mp H
           obtain ⟨⟨t233, t234, t235⟩, A210, H⟩ := H
           replace H : (if (Int.tmod (wrap64 (rd l0 x9_1)) 11) = 0 then (clinkerlaw06_Made.j2 kj10 l0 a1 x9_1 x10_1 (wrap64 (rd l0 x9_1)) (Int.tmod (wrap64 (rd l0 x9_1)) a1) ji17 x231000_1 x231001_1 x231002_1 x231003_1 t233 t234 t235 1 (⟨#[120]⟩ : ByteArray) t235 0) else (clinkerlaw06_Made.j2 kj10 l0 a1 x9_1 x10_1 (wrap64 (rd l0 x9_1)) (Int.tmod (wrap64 (rd l0 x9_1)) a1) ji17 x231000_1 x231001_1 x231002_1 x231003_1 t233 t234 t235 0 (⟨#[]⟩ : ByteArray) (⟨#[]⟩ : ByteArray) 0)) = some (r1, r2, r3, r4) := H
           have A21 := Aside0.mk A210
           clear A210
           have HC22 := Aside0.mk H
           clear H
           have p231 : 0 ≤ (x9_1 : Int) := of_decide_eq_true (by first | (with_reducible assumption) | assumption)
           have q231 : x9_1 < (l0.length : Int) := of_decide_eq_true (by first | (with_reducible assumption) | assumption)
           obtain ⟨ad231, e231, hx231_0⟩ := Kd.at_int HR0.out x9_1 p231 q231
           cases e231
           replace hx231_0 := (HB.out.cell (World.block_lt_of_cell? w _ hx231_0)).trans hx231_0
           replace p231 := eq_true p231
           replace q231 := eq_true q231
           obtain ⟨i023, hi023, _, hsz23, _⟩ := info_parts info49
           obtain ⟨A23, hcut23, hA23, hC23⟩ := print_mid_of (P := Try.prog) (Value.int .u16) 0 22 49 .i64 .i64 Try.underlying22 hi023 hsz23 (some ad231) c0 l0 x9_1 (ji17) (of_decide_eq_true (by first | (with_reducible assumption) | assumption)) (by first | omega | exact of_decide_eq_true (by first | (with_reducible assumption) | assumption)) (of_decide_eq_true (by first | (with_reducible assumption) | assumption)) HC0.out
           have HR232 := Aside0.mk (Kd.C_of_reads (h1 := fun _ => rfl) (hA23 _ (Kd.reads_of_C HR0.out)))
           have HC232 := Aside0.mk hC23
           clear hA23 hC23 hi023 hsz23
           go_upto_if 62 with (first | ((with_reducible refine gate_callee (f := 15) rfl ?_); refine goesL_ (some 58) rfl rfl Try.func15 (by kernel_rfl) rfl #[.int .i64 (Int.tmod (wrap64 (Int.tdiv (wrap64 (rd l0 x9_1)) 7)) 30), .slice A23 ((l0.take ((ji17) : Int).toNat).drop (x9_1 : Int).toNat).length (c0 - x9_1.toNat)] rfl (by (try simp only [List.map_toArray, List.map_cons, List.map_nil]); first | done | (rw [show ((l0.take ((ji17) : Int).toNat).drop (x9_1 : Int).toNat).length = ((ji17).toNat - x9_1.toNat) from (by rw [List.length_drop, List.length_take]; have h_ : ((ji17) : Int) ≤ (l0.length : Int) := of_decide_eq_true (by first | (with_reducible assumption) | assumption); omega)] <;> rfl) | (simp only [hji17]; rfl) | rfl | (simp only [List.length_drop, List.length_take]; rfl)) ?_; (with_reducible refine (clinkerlaw06_Page.calls kj10 (Int.tmod (wrap64 (Int.tdiv (wrap64 (rd l0 x9_1)) 7)) 30) _ _ ((l0.take ((ji17) : Int).toNat).drop (x9_1 : Int).toNat) t233 t234 t235 _ ?side1 ?side2 A21.out).mono ?_); (case side1 => repeat (first | exact (Kd.C_below HR232.out HB.out) | (with_reducible refine Kd.C_alloc ?_ _) | (with_reducible refine Kd.C_drewN ?_ _) | (with_reducible refine Kd.C_drew ?_))); (case side2 => exact HC232.out); rintro e w24 ⟨rfl, hb⟩; refine ⟨_, rfl, ?_⟩; have n0_ := Aside0.mk (Kd.V_below (by (with_reducible repeat (first | apply vA | apply vN | apply vD)); exact HO_231000.out) hb); have n1_ := Aside0.mk (blk_below (g := gb222) (o := .cells #[.slice none 0 0, .bool false, .bool false, .int .i64 0] 26 (0, 0)) (by (with_reducible repeat (first | apply bN | apply bD | apply bA)); exact BK222.out) hb); have n2_ := Aside0.mk (blk_below (g := gb230) (o := .cells #[u231000, .bool x231001_1, .bool x231002_1, .int .i64 x231003_1] 26 (0, 0)) (by (with_reducible repeat (first | apply bN | apply bD | apply bA)); exact BK230.out) hb); have n3_ := Aside0.mk (below_step (by repeat (first | (with_reducible first | exact HB.out | apply below_alloc | apply pw_below_drewN | apply below_drew1 | refine below_set ?_ GE222.out | refine below_set ?_ GE230.out) | exact HB.out)) hb); clear HO_231000; clear BK222; clear BK230; clear HB; have HO_231000 := n0_; have BK222 := n1_; have BK230 := n2_; have HB := n3_; clear n0_ n1_ n2_ n3_; (try clear hb); (try clear hb2); (try clear hk); (try clear hi)) | ((with_reducible refine gate_dst (N := 14) rfl ?_); (try (refine gate_guard (by rfl) ?_; dsimp only)); refine box_event ?hg (N := 14) ?hd (cs := #[.bool false, .string (⟨#[]⟩ : ByteArray), .string (⟨#[]⟩ : ByteArray)]) (t := 42) ?hr ?_; (case hd => rfl); (case hg => rfl); (case hr => first | (go_simp; done) | (go_simp; rfl)); intro gb236 hg w25 hbox hb; have n0_ := Aside0.mk (Kd.V_below (Kd.V_elderB (by (with_reducible repeat (first | apply vA | apply vN | apply vD)); exact HO_231000.out) gb236 (Nat.le_of_eq hg.symm)) hb); have n1_ := Aside0.mk (blk_below (g := gb222) (o := .cells #[.slice none 0 0, .bool false, .bool false, .int .i64 0] 26 (0, 0)) (by (with_reducible repeat (first | apply bN | apply bD | apply bA)); exact BK222.out) hb); have n2_ := Aside0.mk (blk_below (g := gb230) (o := .cells #[u231000, .bool x231001_1, .bool x231002_1, .int .i64 x231003_1] 26 (0, 0)) (by (with_reducible repeat (first | apply bN | apply bD | apply bA)); exact BK230.out) hb); have n3_ := Aside0.mk (below_step (by repeat (first | (with_reducible first | exact HB.out | apply below_alloc | apply pw_below_drewN | apply below_drew1 | refine below_set ?_ GE222.out | refine below_set ?_ GE230.out) | exact HB.out)) hb); have n4_ := Aside0.mk (hbox); have n5_ := Aside0.mk ((by rw [hg]; exact (below_size (by repeat (first | (with_reducible first | exact HB.out | apply below_alloc | apply pw_below_drewN | apply below_drew1 | refine below_set ?_ GE222.out | refine below_set ?_ GE230.out) | exact HB.out))) : w.heap.size ≤ gb236)); have n6_ := Aside0.mk ((by rw [hg]; exact (below_size (by repeat (first | (with_reducible first | exact HB.out | apply below_alloc | apply pw_below_drewN | apply below_drew1 | refine below_set ?_ GE222.out | refine below_set ?_ GE230.out) | exact HB.out))) : w.heap.size ≤ gb236)); have n7_ := Aside0.mk ((by rw [hg]; exact Nat.ne_of_lt (blk_lt (g := gb222) (o := .cells #[.slice none 0 0, .bool false, .bool false, .int .i64 0] 26 (0, 0)) (by (with_reducible repeat (first | apply bN | apply bD | apply bA)); exact BK222.out)) : gb222 ≠ gb236)); have n8_ := Aside0.mk ((by rw [hg]; exact Nat.ne_of_gt (blk_lt (g := gb222) (o := .cells #[.slice none 0 0, .bool false, .bool false, .int .i64 0] 26 (0, 0)) (by (with_reducible repeat (first | apply bN | apply bD | apply bA)); exact BK222.out)) : gb236 ≠ gb222)); have n9_ := Aside0.mk ((by rw [hg]; exact Nat.ne_of_lt (blk_lt (g := gb230) (o := .cells #[u231000, .bool x231001_1, .bool x231002_1, .int .i64 x231003_1] 26 (0, 0)) (by (with_reducible repeat (first | apply bN | apply bD | apply bA)); exact BK230.out)) : gb230 ≠ gb236)); have n10_ := Aside0.mk ((by rw [hg]; exact Nat.ne_of_gt (blk_lt (g := gb230) (o := .cells #[u231000, .bool x231001_1, .bool x231002_1, .int .i64 x231003_1] 26 (0, 0)) (by (with_reducible repeat (first | apply bN | apply bD | apply bA)); exact BK230.out)) : gb236 ≠ gb230)); clear HO_231000; clear BK222; clear BK230; clear HB; have HO_231000 := n0_; have BK222 := n1_; have BK230 := n2_; have HB := n3_; have BK236 := n4_; have GW236 := n5_; have GE236 := n6_; have NB222_236 := n7_; have NB236_222 := n8_; have NB230_236 := n9_; have NB236_230 := n10_; clear n0_ n1_ n2_ n3_ n4_ n5_ n6_ n7_ n8_ n9_ n10_; clear hb hbox hg; have hnb26 := NB236_222.out; have hnc26 := NB222_236.out; have hnb27 := NB236_230.out; have hnc27 := NB230_236.out; have hcz28_0 : w25.cell? ⟨gb236, 0, none⟩ = some (.bool false) := (blk_cell BK236.out 0).trans rfl; have hcz28_1 : w25.cell? ⟨gb236, 1, none⟩ = some (.string (⟨#[]⟩ : ByteArray)) := (blk_cell BK236.out 1).trans rfl; have hcz28_2 : w25.cell? ⟨gb236, 2, none⟩ = some (.string (⟨#[]⟩ : ByteArray)) := (blk_cell BK236.out 2).trans rfl; have hfz28_0 := blk_frozen BK236.out 0; have hfz28_1 := blk_frozen BK236.out 1; have hfz28_2 := blk_frozen BK236.out 2) | ((with_reducible refine gate_dst (N := 15) rfl ?_); (try (refine gate_guard (by rfl) ?_; dsimp only)); refine box_event ?hg (N := 15) ?hd (cs := #[.int .i64 0, .string (⟨#[]⟩ : ByteArray), .string (⟨#[]⟩ : ByteArray), .int .i64 0]) (t := 33) ?hr ?_; (case hd => rfl); (case hg => rfl); (case hr => first | (go_simp; done) | (go_simp; rfl)); intro gb237 hg w29 hbox hb; have n0_ := Aside0.mk (Kd.V_below (Kd.V_elderB (by (with_reducible repeat (first | apply vA | apply vN | apply vD)); exact (Kd.V_mono (Kd.V_far (p := ⟨gb236, 2, none⟩) (Kd.V_far (p := ⟨gb236, 1, none⟩) (Kd.V_far (p := ⟨gb236, 0, none⟩) (Kd.V_mono HO_231000.out (fun k_ hk => (⟨hk, hk.2⟩ : _ ∧ k_ ≠ gb236))) (fun _ hk => hk.2) (.bool t233)) (fun _ hk => hk.2) (.string t234)) (fun _ hk => hk.2) (.string t235)) (fun _ h_ => h_.1))) gb237 (Nat.le_of_eq hg.symm)) hb); have n1_ := Aside0.mk (blk_below (g := gb222) (o := .cells #[.slice none 0 0, .bool false, .bool false, .int .i64 0] 26 (0, 0)) (by (with_reducible repeat (first | apply bN | apply bD | apply bA)); refine blk_far ?_ NB222_236.out _; (with_reducible repeat (first | apply bN | apply bD | apply bA)); refine blk_far ?_ NB222_236.out _; (with_reducible repeat (first | apply bN | apply bD | apply bA)); refine blk_far ?_ NB222_236.out _; (with_reducible repeat (first | apply bN | apply bD | apply bA)); exact BK222.out) hb); have n2_ := Aside0.mk (blk_below (g := gb230) (o := .cells #[u231000, .bool x231001_1, .bool x231002_1, .int .i64 x231003_1] 26 (0, 0)) (by (with_reducible repeat (first | apply bN | apply bD | apply bA)); refine blk_far ?_ NB230_236.out _; (with_reducible repeat (first | apply bN | apply bD | apply bA)); refine blk_far ?_ NB230_236.out _; (with_reducible repeat (first | apply bN | apply bD | apply bA)); refine blk_far ?_ NB230_236.out _; (with_reducible repeat (first | apply bN | apply bD | apply bA)); exact BK230.out) hb); have n3_ := Aside0.mk (blk_below (g := gb236) (o := .cells #[.bool t233, .string t234, .string t235] 42 (0, 0)) (by (with_reducible repeat (first | apply bN | apply bD | apply bA)); refine blk_put (cs := #[.bool t233, .string t234, .string (⟨#[]⟩ : ByteArray)]) ?_ 2 _ rfl; (with_reducible repeat (first | apply bN | apply bD | apply bA)); refine blk_put (cs := #[.bool t233, .string (⟨#[]⟩ : ByteArray), .string (⟨#[]⟩ : ByteArray)]) ?_ 1 _ rfl; (with_reducible repeat (first | apply bN | apply bD | apply bA)); refine blk_put (cs := #[.bool false, .string (⟨#[]⟩ : ByteArray), .string (⟨#[]⟩ : ByteArray)]) ?_ 0 _ rfl; (with_reducible repeat (first | apply bN | apply bD | apply bA)); exact BK236.out) hb); have n4_ := Aside0.mk (below_step (by repeat (first | (with_reducible first | exact HB.out | apply below_alloc | apply pw_below_drewN | apply below_drew1 | refine below_set ?_ GE222.out | refine below_set ?_ GE230.out | refine below_set ?_ GE236.out) | exact HB.out)) hb); have n5_ := Aside0.mk (hbox); have n6_ := Aside0.mk ((by rw [hg]; exact (below_size (by repeat (first | (with_reducible first | exact HB.out | apply below_alloc | apply pw_below_drewN | apply below_drew1 | refine below_set ?_ GE222.out | refine below_set ?_ GE230.out | refine below_set ?_ GE236.out) | exact HB.out))) : w.heap.size ≤ gb237)); have n7_ := Aside0.mk ((by rw [hg]; exact (below_size (by repeat (first | (with_reducible first | exact HB.out | apply below_alloc | apply pw_below_drewN | apply below_drew1 | refine below_set ?_ GE222.out | refine below_set ?_ GE230.out | refine below_set ?_ GE236.out) | exact HB.out))) : w.heap.size ≤ gb237)); have n8_ := Aside0.mk ((by rw [hg]; exact Nat.ne_of_lt (blk_lt (g := gb222) (o := .cells #[.slice none 0 0, .bool false, .bool false, .int .i64 0] 26 (0, 0)) (by (with_reducible repeat (first | apply bN | apply bD | apply bA)); refine blk_far ?_ NB222_236.out _; (with_reducible repeat (first | apply bN | apply bD | apply bA)); refine blk_far ?_ NB222_236.out _; (with_reducible repeat (first | apply bN | apply bD | apply bA)); refine blk_far ?_ NB222_236.out _; (with_reducible repeat (first | apply bN | apply bD | apply bA)); exact BK222.out)) : gb222 ≠ gb237)); have n9_ := Aside0.mk ((by rw [hg]; exact Nat.ne_of_gt (blk_lt (g := gb222) (o := .cells #[.slice none 0 0, .bool false, .bool false, .int .i64 0] 26 (0, 0)) (by (with_reducible repeat (first | apply bN | apply bD | apply bA)); refine blk_far ?_ NB222_236.out _; (with_reducible repeat (first | apply bN | apply bD | apply bA)); refine blk_far ?_ NB222_236.out _; (with_reducible repeat (first | apply bN | apply bD | apply bA)); refine blk_far ?_ NB222_236.out _; (with_reducible repeat (first | apply bN | apply bD | apply bA)); exact BK222.out)) : gb237 ≠ gb222)); have n10_ := Aside0.mk ((by rw [hg]; exact Nat.ne_of_lt (blk_lt (g := gb230) (o := .cells #[u231000, .bool x231001_1, .bool x231002_1, .int .i64 x231003_1] 26 (0, 0)) (by (with_reducible repeat (first | apply bN | apply bD | apply bA)); refine blk_far ?_ NB230_236.out _; (with_reducible repeat (first | apply bN | apply bD | apply bA)); refine blk_far ?_ NB230_236.out _; (with_reducible repeat (first | apply bN | apply bD | apply bA)); refine blk_far ?_ NB230_236.out _; (with_reducible repeat (first | apply bN | apply bD | apply bA)); exact BK230.out)) : gb230 ≠ gb237)); have n11_ := Aside0.mk ((by rw [hg]; exact Nat.ne_of_gt (blk_lt (g := gb230) (o := .cells #[u231000, .bool x231001_1, .bool x231002_1, .int .i64 x231003_1] 26 (0, 0)) (by (with_reducible repeat (first | apply bN | apply bD | apply bA)); refine blk_far ?_ NB230_236.out _; (with_reducible repeat (first | apply bN | apply bD | apply bA)); refine blk_far ?_ NB230_236.out _; (with_reducible repeat (first | apply bN | apply bD | apply bA)); refine blk_far ?_ NB230_236.out _; (with_reducible repeat (first | apply bN | apply bD | apply bA)); exact BK230.out)) : gb237 ≠ gb230)); have n12_ := Aside0.mk ((by rw [hg]; exact Nat.ne_of_lt (blk_lt (g := gb236) (o := .cells #[.bool t233, .string t234, .string t235] 42 (0, 0)) (by (with_reducible repeat (first | apply bN | apply bD | apply bA)); refine blk_put (cs := #[.bool t233, .string t234, .string (⟨#[]⟩ : ByteArray)]) ?_ 2 _ rfl; (with_reducible repeat (first | apply bN | apply bD | apply bA)); refine blk_put (cs := #[.bool t233, .string (⟨#[]⟩ : ByteArray), .string (⟨#[]⟩ : ByteArray)]) ?_ 1 _ rfl; (with_reducible repeat (first | apply bN | apply bD | apply bA)); refine blk_put (cs := #[.bool false, .string (⟨#[]⟩ : ByteArray), .string (⟨#[]⟩ : ByteArray)]) ?_ 0 _ rfl; (with_reducible repeat (first | apply bN | apply bD | apply bA)); exact BK236.out)) : gb236 ≠ gb237)); have n13_ := Aside0.mk ((by rw [hg]; exact Nat.ne_of_gt (blk_lt (g := gb236) (o := .cells #[.bool t233, .string t234, .string t235] 42 (0, 0)) (by (with_reducible repeat (first | apply bN | apply bD | apply bA)); refine blk_put (cs := #[.bool t233, .string t234, .string (⟨#[]⟩ : ByteArray)]) ?_ 2 _ rfl; (with_reducible repeat (first | apply bN | apply bD | apply bA)); refine blk_put (cs := #[.bool t233, .string (⟨#[]⟩ : ByteArray), .string (⟨#[]⟩ : ByteArray)]) ?_ 1 _ rfl; (with_reducible repeat (first | apply bN | apply bD | apply bA)); refine blk_put (cs := #[.bool false, .string (⟨#[]⟩ : ByteArray), .string (⟨#[]⟩ : ByteArray)]) ?_ 0 _ rfl; (with_reducible repeat (first | apply bN | apply bD | apply bA)); exact BK236.out)) : gb237 ≠ gb236)); clear HO_231000; clear BK222; clear BK230; clear BK236; clear HB; have HO_231000 := n0_; have BK222 := n1_; have BK230 := n2_; have BK236 := n3_; have HB := n4_; have BK237 := n5_; have GW237 := n6_; have GE237 := n7_; have NB222_237 := n8_; have NB237_222 := n9_; have NB230_237 := n10_; have NB237_230 := n11_; have NB236_237 := n12_; have NB237_236 := n13_; clear n0_ n1_ n2_ n3_ n4_ n5_ n6_ n7_ n8_ n9_ n10_ n11_ n12_ n13_; clear hb hbox hg; have hnb30 := NB237_222.out; have hnc30 := NB222_237.out; have hnb31 := NB237_230.out; have hnc31 := NB230_237.out; have hnb32 := NB237_236.out; have hnc32 := NB236_237.out; have hcz33_0 : w29.cell? ⟨gb237, 0, none⟩ = some (.int .i64 0) := (blk_cell BK237.out 0).trans rfl; have hcz33_1 : w29.cell? ⟨gb237, 1, none⟩ = some (.string (⟨#[]⟩ : ByteArray)) := (blk_cell BK237.out 1).trans rfl; have hcz33_2 : w29.cell? ⟨gb237, 2, none⟩ = some (.string (⟨#[]⟩ : ByteArray)) := (blk_cell BK237.out 2).trans rfl; have hcz33_3 : w29.cell? ⟨gb237, 3, none⟩ = some (.int .i64 0) := (blk_cell BK237.out 3).trans rfl; have hfz33_0 := blk_frozen BK237.out 0; have hfz33_1 := blk_frozen BK237.out 1; have hfz33_2 := blk_frozen BK237.out 2; have hfz33_3 := blk_frozen BK237.out 3))
           (try simp only [Act.put, List.setIfInBounds_toArray, List.set_cons_zero, List.set_cons_succ])
           go_cut [] (fun wc => ∃ (kq : Nat) (x238000_21 : Int) (x238001_21 : ByteArray) (x238002_21 : ByteArray) (x238003_21 : Int), Aside0 (clinkerlaw06_Made.j2 kq l0 a1 x9_1 x10_1 (wrap64 (rd l0 x9_1)) (Int.tmod (wrap64 (rd l0 x9_1)) a1) ji17 x231000_1 x231001_1 x231002_1 x231003_1 t233 t234 t235 x238000_21 x238001_21 x238002_21 x238003_21 = some (r1, r2, r3, r4)) ∧ Aside0 (kq ≤ kj10) ∧ Aside0 (Kd.V k45 45 wc w.heap.size (fun k_ => (w.heap.size ≤ k_) ∧ k_ ≠ gb222 ∧ k_ ≠ gb230 ∧ k_ ≠ gb236 ∧ k_ ≠ gb237) u231000 x231000_1) ∧ Aside0 (wc.heap[gb222]? = some (.cells #[(.slice none 0 0), .bool false, .bool false, .int .i64 0] 26 (0, 0))) ∧ Aside0 (wc.heap[gb230]? = some (.cells #[u231000, .bool x231001_1, .bool x231002_1, .int .i64 x231003_1] 26 (0, 0))) ∧ Aside0 (wc.heap[gb236]? = some (.cells #[.bool t233, .string t234, .string t235] 42 (0, 0))) ∧ Aside0 (wc.heap[gb237]? = some (.cells #[.int .i64 x238000_21, .string x238001_21, .string x238002_21, .int .i64 x238003_21] 33 (0, 0))) ∧ Aside0 (Below w.heap.size w wc))
           case first =>
            have H := HC22.out
            clear HC22
            by_cases c34 : (Int.tmod (wrap64 (rd l0 x9_1)) 11) = 0
            ·
             rw [if_pos c34] at H
             have c34b0 : ((Int.tmod (wrap64 (rd l0 x9_1)) 11) == 0) = true := beq_iff_eq.mpr c34
             have c34b1 : ((Int.tmod (wrap64 (rd l0 x9_1)) 11) != 0) = false := bne_eq_false_iff_eq.mpr c34
             clear c34
             (first | rw [c34b0] | (simp only [i64_w, i32_w]; rw [c34b0]) | skip)
             have H' := Aside0.mk H
             clear H
             have hnb35 := NB236_222.out
             have hnc35 := NB222_236.out
             have hnb36 := NB236_230.out
             have hnc36 := NB230_236.out
             have hnb37 := NB236_237.out
             have hnc37 := NB237_236.out
             have hcz38_0 : w29.cell? ⟨gb236, 0, none⟩ = some (.bool t233) := (blk_cell BK236.out 0).trans rfl
             have hcz38_1 : w29.cell? ⟨gb236, 1, none⟩ = some (.string t234) := (blk_cell BK236.out 1).trans rfl
             have hcz38_2 : w29.cell? ⟨gb236, 2, none⟩ = some (.string t235) := (blk_cell BK236.out 2).trans rfl
             have hfz38_0 := blk_frozen BK236.out 0
             have hfz38_1 := blk_frozen BK236.out 1
             have hfz38_2 := blk_frozen BK236.out 2
             have hnb39 := NB237_222.out
             have hnc39 := NB222_237.out
             have hnb40 := NB237_230.out
             have hnc40 := NB230_237.out
             have hcz41_0 : w29.cell? ⟨gb237, 0, none⟩ = some (.int .i64 0) := (blk_cell BK237.out 0).trans rfl
             have hcz41_1 : w29.cell? ⟨gb237, 1, none⟩ = some (.string (⟨#[]⟩ : ByteArray)) := (blk_cell BK237.out 1).trans rfl
             have hcz41_2 : w29.cell? ⟨gb237, 2, none⟩ = some (.string (⟨#[]⟩ : ByteArray)) := (blk_cell BK237.out 2).trans rfl
             have hcz41_3 : w29.cell? ⟨gb237, 3, none⟩ = some (.int .i64 0) := (blk_cell BK237.out 3).trans rfl
             have hfz41_0 := blk_frozen BK237.out 0
             have hfz41_1 := blk_frozen BK237.out 1
             have hfz41_2 := blk_frozen BK237.out 2
             have hfz41_3 := blk_frozen BK237.out 3
             go_wp2
             go_meet
             case rel => exact ⟨_, (1), ((⟨#[120]⟩ : ByteArray)), (t235), (0), H', ⟨by have := HK1.out; have := HJ10.out; first | omega | exact Nat.le_refl _⟩, ⟨by (with_reducible repeat (first | apply vA | apply vN | apply vD)); exact Kd.V_mono (Kd.V_far (p := ⟨gb237, 3, none⟩) (Kd.V_far (p := ⟨gb237, 2, none⟩) (Kd.V_far (p := ⟨gb237, 1, none⟩) (Kd.V_far (p := ⟨gb237, 0, none⟩) (Kd.V_far (p := ⟨gb237, 3, none⟩) (Kd.V_far (p := ⟨gb237, 2, none⟩) (Kd.V_far (p := ⟨gb237, 1, none⟩) (Kd.V_far (p := ⟨gb237, 0, none⟩) (Kd.V_mono HO_231000.out (fun k_ hk => (⟨hk, hk.2⟩ : _ ∧ k_ ≠ gb237))) (fun _ hk => hk.2) _) (fun _ hk => hk.2) (.string (⟨#[]⟩ : ByteArray))) (fun _ hk => hk.2) (.string (⟨#[]⟩ : ByteArray))) (fun _ hk => hk.2) _) (fun _ hk => hk.2) _) (fun _ hk => hk.2) (.string (⟨#[120]⟩ : ByteArray))) (fun _ hk => hk.2) (.string t235)) (fun _ hk => hk.2) _) (fun _ hk => ⟨hk.1.1.1.1, ⟨hk.1.1.1.2.1, ⟨hk.1.1.1.2.2, ⟨hk.1.1.2, hk.1.2⟩⟩⟩⟩)⟩, ⟨by (with_reducible repeat (first | apply bN | apply bD | apply bA)); refine blk_far ?_ NB222_237.out _; (with_reducible repeat (first | apply bN | apply bD | apply bA)); refine blk_far ?_ NB222_237.out _; (with_reducible repeat (first | apply bN | apply bD | apply bA)); refine blk_far ?_ NB222_237.out _; (with_reducible repeat (first | apply bN | apply bD | apply bA)); refine blk_far ?_ NB222_237.out _; (with_reducible repeat (first | apply bN | apply bD | apply bA)); refine blk_far ?_ NB222_237.out _; (with_reducible repeat (first | apply bN | apply bD | apply bA)); refine blk_far ?_ NB222_237.out _; (with_reducible repeat (first | apply bN | apply bD | apply bA)); refine blk_far ?_ NB222_237.out _; (with_reducible repeat (first | apply bN | apply bD | apply bA)); refine blk_far ?_ NB222_237.out _; (with_reducible repeat (first | apply bN | apply bD | apply bA)); exact BK222.out⟩, ⟨by (with_reducible repeat (first | apply bN | apply bD | apply bA)); refine blk_far ?_ NB230_237.out _; (with_reducible repeat (first | apply bN | apply bD | apply bA)); refine blk_far ?_ NB230_237.out _; (with_reducible repeat (first | apply bN | apply bD | apply bA)); refine blk_far ?_ NB230_237.out _; (with_reducible repeat (first | apply bN | apply bD | apply bA)); refine blk_far ?_ NB230_237.out _; (with_reducible repeat (first | apply bN | apply bD | apply bA)); refine blk_far ?_ NB230_237.out _; (with_reducible repeat (first | apply bN | apply bD | apply bA)); refine blk_far ?_ NB230_237.out _; (with_reducible repeat (first | apply bN | apply bD | apply bA)); refine blk_far ?_ NB230_237.out _; (with_reducible repeat (first | apply bN | apply bD | apply bA)); refine blk_far ?_ NB230_237.out _; (with_reducible repeat (first | apply bN | apply bD | apply bA)); exact BK230.out⟩, ⟨by (with_reducible repeat (first | apply bN | apply bD | apply bA)); refine blk_far ?_ NB236_237.out _; (with_reducible repeat (first | apply bN | apply bD | apply bA)); refine blk_far ?_ NB236_237.out _; (with_reducible repeat (first | apply bN | apply bD | apply bA)); refine blk_far ?_ NB236_237.out _; (with_reducible repeat (first | apply bN | apply bD | apply bA)); refine blk_far ?_ NB236_237.out _; (with_reducible repeat (first | apply bN | apply bD | apply bA)); refine blk_far ?_ NB236_237.out _; (with_reducible repeat (first | apply bN | apply bD | apply bA)); refine blk_far ?_ NB236_237.out _; (with_reducible repeat (first | apply bN | apply bD | apply bA)); refine blk_far ?_ NB236_237.out _; (with_reducible repeat (first | apply bN | apply bD | apply bA)); refine blk_far ?_ NB236_237.out _; (with_reducible repeat (first | apply bN | apply bD | apply bA)); exact BK236.out⟩, ⟨by (with_reducible repeat (first | apply bN | apply bD | apply bA)); refine blk_put (cs := #[.int .i64 1, .string (⟨#[120]⟩ : ByteArray), .string t235, .int .i64 0]) ?_ 3 _ rfl; (with_reducible repeat (first | apply bN | apply bD | apply bA)); refine blk_put (cs := #[.int .i64 1, .string (⟨#[120]⟩ : ByteArray), .string (⟨#[]⟩ : ByteArray), .int .i64 0]) ?_ 2 _ rfl; (with_reducible repeat (first | apply bN | apply bD | apply bA)); refine blk_put (cs := #[.int .i64 1, .string (⟨#[]⟩ : ByteArray), .string (⟨#[]⟩ : ByteArray), .int .i64 0]) ?_ 1 _ rfl; (with_reducible repeat (first | apply bN | apply bD | apply bA)); refine blk_put (cs := #[.int .i64 0, .string (⟨#[]⟩ : ByteArray), .string (⟨#[]⟩ : ByteArray), .int .i64 0]) ?_ 0 _ rfl; (with_reducible repeat (first | apply bN | apply bD | apply bA)); refine blk_put (cs := #[.int .i64 0, .string (⟨#[]⟩ : ByteArray), .string (⟨#[]⟩ : ByteArray), .int .i64 0]) ?_ 3 _ rfl; (with_reducible repeat (first | apply bN | apply bD | apply bA)); refine blk_put (cs := #[.int .i64 0, .string (⟨#[]⟩ : ByteArray), .string (⟨#[]⟩ : ByteArray), .int .i64 0]) ?_ 2 _ rfl; (with_reducible repeat (first | apply bN | apply bD | apply bA)); refine blk_put (cs := #[.int .i64 0, .string (⟨#[]⟩ : ByteArray), .string (⟨#[]⟩ : ByteArray), .int .i64 0]) ?_ 1 _ rfl; (with_reducible repeat (first | apply bN | apply bD | apply bA)); refine blk_put (cs := #[.int .i64 0, .string (⟨#[]⟩ : ByteArray), .string (⟨#[]⟩ : ByteArray), .int .i64 0]) ?_ 0 _ rfl; (with_reducible repeat (first | apply bN | apply bD | apply bA)); exact BK237.out⟩, ⟨by repeat (first | (with_reducible first | exact HB.out | apply below_alloc | apply pw_below_drewN | apply below_drew1 | refine below_set ?_ GE222.out | refine below_set ?_ GE230.out | refine below_set ?_ GE236.out | refine below_set ?_ GE237.out) | exact HB.out)⟩⟩
            ·
             rw [if_neg c34] at H
             have c34b0 : ((Int.tmod (wrap64 (rd l0 x9_1)) 11) == 0) = false := beq_eq_false_iff_ne.mpr c34
             have c34b1 : ((Int.tmod (wrap64 (rd l0 x9_1)) 11) != 0) = true := bne_iff_ne.mpr c34
             (first | rw [c34b0] | (simp only [i64_w, i32_w]; rw [c34b0]) | skip)
             have H' := Aside0.mk H
             clear H
             go_wp2
             go_meet
             case rel => exact ⟨_, (0), ((⟨#[]⟩ : ByteArray)), ((⟨#[]⟩ : ByteArray)), (0), H', ⟨by have := HK1.out; have := HJ10.out; first | omega | exact Nat.le_refl _⟩, ⟨by (with_reducible repeat (first | apply vA | apply vN | apply vD)); exact Kd.V_mono (Kd.V_far (p := ⟨gb237, 3, none⟩) (Kd.V_far (p := ⟨gb237, 2, none⟩) (Kd.V_far (p := ⟨gb237, 1, none⟩) (Kd.V_far (p := ⟨gb237, 0, none⟩) (Kd.V_mono HO_231000.out (fun k_ hk => (⟨hk, hk.2⟩ : _ ∧ k_ ≠ gb237))) (fun _ hk => hk.2) _) (fun _ hk => hk.2) (.string (⟨#[]⟩ : ByteArray))) (fun _ hk => hk.2) (.string (⟨#[]⟩ : ByteArray))) (fun _ hk => hk.2) _) (fun _ hk => ⟨hk.1.1.1.1, ⟨hk.1.1.1.2.1, ⟨hk.1.1.1.2.2, ⟨hk.1.1.2, hk.1.2⟩⟩⟩⟩)⟩, ⟨by (with_reducible repeat (first | apply bN | apply bD | apply bA)); refine blk_far ?_ NB222_237.out _; (with_reducible repeat (first | apply bN | apply bD | apply bA)); refine blk_far ?_ NB222_237.out _; (with_reducible repeat (first | apply bN | apply bD | apply bA)); refine blk_far ?_ NB222_237.out _; (with_reducible repeat (first | apply bN | apply bD | apply bA)); refine blk_far ?_ NB222_237.out _; (with_reducible repeat (first | apply bN | apply bD | apply bA)); exact BK222.out⟩, ⟨by (with_reducible repeat (first | apply bN | apply bD | apply bA)); refine blk_far ?_ NB230_237.out _; (with_reducible repeat (first | apply bN | apply bD | apply bA)); refine blk_far ?_ NB230_237.out _; (with_reducible repeat (first | apply bN | apply bD | apply bA)); refine blk_far ?_ NB230_237.out _; (with_reducible repeat (first | apply bN | apply bD | apply bA)); refine blk_far ?_ NB230_237.out _; (with_reducible repeat (first | apply bN | apply bD | apply bA)); exact BK230.out⟩, ⟨by (with_reducible repeat (first | apply bN | apply bD | apply bA)); refine blk_far ?_ NB236_237.out _; (with_reducible repeat (first | apply bN | apply bD | apply bA)); refine blk_far ?_ NB236_237.out _; (with_reducible repeat (first | apply bN | apply bD | apply bA)); refine blk_far ?_ NB236_237.out _; (with_reducible repeat (first | apply bN | apply bD | apply bA)); refine blk_far ?_ NB236_237.out _; (with_reducible repeat (first | apply bN | apply bD | apply bA)); exact BK236.out⟩, ⟨by (with_reducible repeat (first | apply bN | apply bD | apply bA)); refine blk_put (cs := #[.int .i64 0, .string (⟨#[]⟩ : ByteArray), .string (⟨#[]⟩ : ByteArray), .int .i64 0]) ?_ 3 _ rfl; (with_reducible repeat (first | apply bN | apply bD | apply bA)); refine blk_put (cs := #[.int .i64 0, .string (⟨#[]⟩ : ByteArray), .string (⟨#[]⟩ : ByteArray), .int .i64 0]) ?_ 2 _ rfl; (with_reducible repeat (first | apply bN | apply bD | apply bA)); refine blk_put (cs := #[.int .i64 0, .string (⟨#[]⟩ : ByteArray), .string (⟨#[]⟩ : ByteArray), .int .i64 0]) ?_ 1 _ rfl; (with_reducible repeat (first | apply bN | apply bD | apply bA)); refine blk_put (cs := #[.int .i64 0, .string (⟨#[]⟩ : ByteArray), .string (⟨#[]⟩ : ByteArray), .int .i64 0]) ?_ 0 _ rfl; (with_reducible repeat (first | apply bN | apply bD | apply bA)); exact BK237.out⟩, ⟨by repeat (first | (with_reducible first | exact HB.out | apply below_alloc | apply pw_below_drewN | apply below_drew1 | refine below_set ?_ GE222.out | refine below_set ?_ GE230.out | refine below_set ?_ GE236.out | refine below_set ?_ GE237.out) | exact HB.out)⟩⟩
           case rest =>
            clear HC22
            try clear c1
            try clear c2
            try clear p2
            try clear q2
            try clear hx2
            try clear c3
            try clear c4
            try clear p6
            try clear c7
            try clear c9
            try clear c11
            try clear c12
            try clear c12b0
            try clear c13
            try clear c14
            try clear c14b0
            try clear c15
            try clear c15b0
            try clear c16
            try clear c16b0
            try clear c16b1
            try clear c18
            try clear c18b0
            try clear c19
            try clear c19b0
            try clear c19b1
            try clear c20
            try clear c20b0
            try clear c20b1
            try clear p23
            try clear q23
            try clear hx23
            try clear c26
            try clear c27
            try clear c30
            try clear c31
            try clear c32
            try clear c34
            try clear c34b0
            try clear c34b1
            try clear c35
            try clear c36
            try clear c37
            try clear c39
            try clear c40
            try clear hcz10_0
            try clear hcz10_1
            try clear hcz10_2
            try clear hcz10_3
            try clear hcz28_0
            try clear hcz28_1
            try clear hcz28_2
            try clear hcz33_0
            try clear hcz33_1
            try clear hcz33_2
            try clear hcz33_3
            try clear hcz38_0
            try clear hcz38_1
            try clear hcz38_2
            try clear hcz41_0
            try clear hcz41_1
            try clear hcz41_2
            try clear hcz41_3
            try clear hfz10_0
            try clear hfz10_1
            try clear hfz10_2
            try clear hfz10_3
            try clear hfz28_0
            try clear hfz28_1
            try clear hfz28_2
            try clear hfz33_0
            try clear hfz33_1
            try clear hfz33_2
            try clear hfz33_3
            try clear hfz38_0
            try clear hfz38_1
            try clear hfz38_2
            try clear hfz41_0
            try clear hfz41_1
            try clear hfz41_2
            try clear hfz41_3
            try clear hx231_0
            try clear p2
            try clear p231
            try clear q231
            obtain ⟨kq, x238000_21, x238001_21, x238002_21, x238003_21, HA, HJ21, HO_231000, BK222, BK230, BK236, BK237, HB⟩ := hcut
            cases kq with
            | zero => exact absurd HA.out (by simp [clinkerlaw06_Made.j2])
            | succ kj21 =>
             have H := HA.out
             clear HA
             simp only [clinkerlaw06_Made.j2] at H
             by_cases c42 : (Int.tmod (wrap64 (rd l0 x9_1)) 29) = 0
             ·
              rw [if_pos c42] at H
              have c42b0 : ((Int.tmod (wrap64 (rd l0 x9_1)) 29) == 0) = true := beq_iff_eq.mpr c42
              have c42b1 : ((Int.tmod (wrap64 (rd l0 x9_1)) 29) != 0) = false := bne_eq_false_iff_eq.mpr c42
              clear c42
              replace H := Option.bind_eq_some_iff.mp H
              obtain ⟨⟨t238, t241, t242, t243, t244⟩, A430, H⟩ := H
              replace H : (if 0 ≤ (Int.tmod (wrap64 (rd l0 x9_1)) a1) then (if (Int.tmod (wrap64 (rd l0 x9_1)) a1) < (t238.length : Int) then ((clinkerref05_Program.f t238 t241 t242 t243 (Int.tmod (wrap64 (rd l0 x9_1)) a1) ((rd_T45 t238 (Int.tmod (wrap64 (rd l0 x9_1)) a1)).f1) t233 t234 t235 x238000_21 x238001_21 x238002_21 x238003_21).bind fun bt246 => (if bt246.2.2.2.2 = 1 then (clinkerlaw06_Made.l0 kj21 l0 a1 (mx ji17 (wrap64 (x9_1 + 1))) (wrap64 (x10_1 + 1)) t238 t241 t242 t243) else (clinkerlaw06_Made.l0 kj21 l0 a1 (mx ji17 (wrap64 (x9_1 + 1))) (wrap64 (x10_1 + 1)) bt246.1 bt246.2.1 bt246.2.2.1 bt246.2.2.2.1))) else (none)) else (none)) = some (r1, r2, r3, r4) := H
              have A43 := Aside0.mk A430
              clear A430
              obtain ⟨ji44, hji44⟩ : ∃ j_ : Int, (Int.tmod (wrap64 (rd l0 x9_1)) a1) = j_ := ⟨_, rfl⟩
              replace H : (if 0 ≤ (ji44) then (if (ji44) < (t238.length : Int) then ((clinkerref05_Program.f t238 t241 t242 t243 (ji44) ((rd_T45 t238 (ji44)).f1) t233 t234 t235 x238000_21 x238001_21 x238002_21 x238003_21).bind fun bt246 => (if bt246.2.2.2.2 = 1 then (clinkerlaw06_Made.l0 kj21 l0 a1 (mx ji17 (wrap64 (x9_1 + 1))) (wrap64 (x10_1 + 1)) t238 t241 t242 t243) else (clinkerlaw06_Made.l0 kj21 l0 a1 (mx ji17 (wrap64 (x9_1 + 1))) (wrap64 (x10_1 + 1)) bt246.1 bt246.2.1 bt246.2.2.1 bt246.2.2.2.1))) else (none)) else (none)) = some (r1, r2, r3, r4) := by first | (rw [hji44] at H; exact H) | (simp only [hji44] at H ⊢; exact H)
              (try rw [hji44] at A43)
              by_cases c45 : 0 ≤ (ji44)
              ·
               rw [if_pos c45] at H
               have c45b0 : decide (0 ≤ (ji44)) = true := decide_eq_true c45
               clear c45
               by_cases c46 : (ji44) < (t238.length : Int)
               ·
                rw [if_pos c46] at H
                have c46b0 : decide ((ji44) < (t238.length : Int)) = true := decide_eq_true c46
                clear c46
                replace H := Option.bind_eq_some_iff.mp H
                obtain ⟨⟨t246, t249, t250, t251, t252⟩, A470, H⟩ := H
                replace H : (if t252 = 1 then (clinkerlaw06_Made.l0 kj21 l0 a1 (mx ji17 (wrap64 (x9_1 + 1))) (wrap64 (x10_1 + 1)) t238 t241 t242 t243) else (clinkerlaw06_Made.l0 kj21 l0 a1 (mx ji17 (wrap64 (x9_1 + 1))) (wrap64 (x10_1 + 1)) t246 t249 t250 t251)) = some (r1, r2, r3, r4) := H
                have A47 := Aside0.mk A470
                clear A470
                by_cases c48 : t252 = 1
                case' pos =>
                 rw [if_pos c48] at H
                 have c48b0 : (t252 == 1) = true := beq_iff_eq.mpr c48
                 have c48b1 : (t252 != 1) = false := bne_eq_false_iff_eq.mpr c48
                 clear c48
                 obtain ⟨ji49, hji49⟩ : ∃ j_ : Int, (mx ji17 (wrap64 (x9_1 + 1))) = j_ := ⟨_, rfl⟩
                 replace H : (clinkerlaw06_Made.l0 kj21 l0 a1 ji49 (wrap64 (x10_1 + 1)) t238 t241 t242 t243) = some (r1, r2, r3, r4) := by first | (rw [hji49] at H; exact H) | (simp only [hji49] at H ⊢; exact H)
                 (try rw [hji49] at A43)
                 (try rw [hji49] at A47)
                 have hji49_ : (if ji17 < (wrap64 (x9_1 + 1)) then (wrap64 (x9_1 + 1)) else ji17) = ji49 := hji49
                 have H' := Aside0.mk H
                 clear H
                 have hnb50 := NB230_222.out
                 have hnc50 := NB222_230.out
                 have hnb51 := NB230_236.out
                 have hnc51 := NB236_230.out
                 have hnb52 := NB230_237.out
                 have hnc52 := NB237_230.out
                 have hcz53_0 : wc.cell? ⟨gb230, 0, none⟩ = some (u231000) := (blk_cell BK230.out 0).trans rfl
                 have hcz53_1 : wc.cell? ⟨gb230, 1, none⟩ = some (.bool x231001_1) := (blk_cell BK230.out 1).trans rfl
                 have hcz53_2 : wc.cell? ⟨gb230, 2, none⟩ = some (.bool x231002_1) := (blk_cell BK230.out 2).trans rfl
                 have hcz53_3 : wc.cell? ⟨gb230, 3, none⟩ = some (.int .i64 x231003_1) := (blk_cell BK230.out 3).trans rfl
                 have hfz53_0 := blk_frozen BK230.out 0
                 have hfz53_1 := blk_frozen BK230.out 1
                 have hfz53_2 := blk_frozen BK230.out 2
                 have hfz53_3 := blk_frozen BK230.out 3
                 obtain ⟨Ao54, co54, eo54⟩ := Kd.V_slice HO_231000.out
                 subst eo54
                 try go_wp2_with (first | ((with_reducible refine gate_callee (f := 9) rfl ?_); refine goesL_ (some 73) rfl rfl Try.func9 (by kernel_rfl) rfl #[.agg #[.slice Ao54 x231000_1.length co54, .bool x231001_1, .bool x231002_1, .int .i64 x231003_1], .int .i64 (ji44), .agg #[.int .i64 0, .string (⟨#[]⟩ : ByteArray), .string (⟨#[]⟩ : ByteArray), .int .i64 0]] rfl (by (try simp only [List.map_toArray, List.map_cons, List.map_nil]); first | done | (simp only [hji44]; rfl) | rfl | (simp only [List.length_drop, List.length_take]; rfl)) ?_; (with_reducible refine (clinkerref05_Erase.calls _ _ x231000_1 x231001_1 x231002_1 x231003_1 (ji44) 0 (⟨#[]⟩ : ByteArray) (⟨#[]⟩ : ByteArray) 0 t238 t241 t242 t243 t244 _ ?side1 ?side2 A43.out).mono ?_); (case side1 => repeat (first | exact (Kd.V_reads' HO_231000.out).2.2 | (with_reducible refine Kd.C_alloc ?_ _) | (with_reducible refine Kd.C_drewN ?_ _) | (with_reducible refine Kd.C_drew ?_))); (case side2 => exact (Kd.V_reads' HO_231000.out).2.1); rintro e w55 ⟨v239, rfl, ho0, hb⟩; refine ⟨_, rfl, ?_⟩; have n0_ := Aside0.mk (Kd.V_below (by (with_reducible repeat (first | apply vA | apply vN | apply vD)); exact HO_231000.out) hb); have n1_ := Aside0.mk (Kd.V_lower (Kd.V_mono (ok' := fun k_ => (w.heap.size ≤ k_) ∧ k_ ≠ gb222 ∧ k_ ≠ gb230 ∧ k_ ≠ gb236 ∧ k_ ≠ gb237) ho0 (fun k_ hk_ => ⟨(Nat.le_trans (below_size (by repeat (first | (with_reducible first | exact HB.out | apply below_alloc | apply pw_below_drewN | apply below_drew1 | refine below_set ?_ GE222.out | refine below_set ?_ GE230.out | refine below_set ?_ GE236.out | refine below_set ?_ GE237.out) | exact HB.out))) hk_), (Kd.freshB (g := gb222) (o := .cells #[.slice none 0 0, .bool false, .bool false, .int .i64 0] 26 (0, 0)) (by (with_reducible repeat (first | apply bN | apply bD | apply bA)); exact BK222.out) k_ hk_), (Kd.freshB (g := gb230) (o := .cells #[.slice Ao54 x231000_1.length co54, .bool x231001_1, .bool x231002_1, .int .i64 x231003_1] 26 (0, 0)) (by (with_reducible repeat (first | apply bN | apply bD | apply bA)); exact BK230.out) k_ hk_), (Kd.freshB (g := gb236) (o := .cells #[.bool t233, .string t234, .string t235] 42 (0, 0)) (by (with_reducible repeat (first | apply bN | apply bD | apply bA)); exact BK236.out) k_ hk_), (Kd.freshB (g := gb237) (o := .cells #[.int .i64 x238000_21, .string x238001_21, .string x238002_21, .int .i64 x238003_21] 33 (0, 0)) (by (with_reducible repeat (first | apply bN | apply bD | apply bA)); exact BK237.out) k_ hk_)⟩)) (below_size (by repeat (first | (with_reducible first | exact HB.out | apply below_alloc | apply pw_below_drewN | apply below_drew1 | refine below_set ?_ GE222.out | refine below_set ?_ GE230.out | refine below_set ?_ GE236.out | refine below_set ?_ GE237.out) | exact HB.out)))); have n2_ := Aside0.mk (blk_below (g := gb222) (o := .cells #[.slice none 0 0, .bool false, .bool false, .int .i64 0] 26 (0, 0)) (by (with_reducible repeat (first | apply bN | apply bD | apply bA)); exact BK222.out) hb); have n3_ := Aside0.mk (blk_below (g := gb230) (o := .cells #[.slice Ao54 x231000_1.length co54, .bool x231001_1, .bool x231002_1, .int .i64 x231003_1] 26 (0, 0)) (by (with_reducible repeat (first | apply bN | apply bD | apply bA)); exact BK230.out) hb); have n4_ := Aside0.mk (blk_below (g := gb236) (o := .cells #[.bool t233, .string t234, .string t235] 42 (0, 0)) (by (with_reducible repeat (first | apply bN | apply bD | apply bA)); exact BK236.out) hb); have n5_ := Aside0.mk (blk_below (g := gb237) (o := .cells #[.int .i64 x238000_21, .string x238001_21, .string x238002_21, .int .i64 x238003_21] 33 (0, 0)) (by (with_reducible repeat (first | apply bN | apply bD | apply bA)); exact BK237.out) hb); have n6_ := Aside0.mk (below_step (by repeat (first | (with_reducible first | exact HB.out | apply below_alloc | apply pw_below_drewN | apply below_drew1 | refine below_set ?_ GE222.out | refine below_set ?_ GE230.out | refine below_set ?_ GE236.out | refine below_set ?_ GE237.out) | exact HB.out)) hb); clear HO_231000; clear BK222; clear BK230; clear BK236; clear BK237; clear HB; have HO_231000 := n0_; have HO240 := n1_; have BK222 := n2_; have BK230 := n3_; have BK236 := n4_; have BK237 := n5_; have HB := n6_; clear n0_ n1_ n2_ n3_ n4_ n5_ n6_; (try clear hb); (try clear hb2); (try clear hk); (try clear hi); (try clear ho0); obtain ⟨Ao56, co56, eo56⟩ := Kd.V_slice HO240.out; subst eo56; have hcz57_0 : w55.cell? ⟨gb230, 0, none⟩ = some (.slice Ao54 x231000_1.length co54) := (blk_cell BK230.out 0).trans rfl; have hcz57_1 : w55.cell? ⟨gb230, 1, none⟩ = some (.bool x231001_1) := (blk_cell BK230.out 1).trans rfl; have hcz57_2 : w55.cell? ⟨gb230, 2, none⟩ = some (.bool x231002_1) := (blk_cell BK230.out 2).trans rfl; have hcz57_3 : w55.cell? ⟨gb230, 3, none⟩ = some (.int .i64 x231003_1) := (blk_cell BK230.out 3).trans rfl; have hfz57_0 := blk_frozen BK230.out 0; have hfz57_1 := blk_frozen BK230.out 1; have hfz57_2 := blk_frozen BK230.out 2; have hfz57_3 := blk_frozen BK230.out 3))
                case' neg =>
                 rw [if_neg c48] at H
                 have c48b0 : (t252 == 1) = false := beq_eq_false_iff_ne.mpr c48
                 have c48b1 : (t252 != 1) = true := bne_iff_ne.mpr c48
                 obtain ⟨ji68, hji68⟩ : ∃ j_ : Int, (mx ji17 (wrap64 (x9_1 + 1))) = j_ := ⟨_, rfl⟩
                 replace H : (clinkerlaw06_Made.l0 kj21 l0 a1 ji68 (wrap64 (x10_1 + 1)) t246 t249 t250 t251) = some (r1, r2, r3, r4) := by first | (rw [hji68] at H; exact H) | (simp only [hji68] at H ⊢; exact H)
                 (try rw [hji68] at A43)
                 (try rw [hji68] at A47)
                 have hji68_ : (if ji17 < (wrap64 (x9_1 + 1)) then (wrap64 (x9_1 + 1)) else ji17) = ji68 := hji68
                 have H' := Aside0.mk H
                 clear H
                 have hnb69 := NB230_222.out
                 have hnc69 := NB222_230.out
                 have hnb70 := NB230_236.out
                 have hnc70 := NB236_230.out
                 have hnb71 := NB230_237.out
                 have hnc71 := NB237_230.out
                 have hcz72_0 : wc.cell? ⟨gb230, 0, none⟩ = some (u231000) := (blk_cell BK230.out 0).trans rfl
                 have hcz72_1 : wc.cell? ⟨gb230, 1, none⟩ = some (.bool x231001_1) := (blk_cell BK230.out 1).trans rfl
                 have hcz72_2 : wc.cell? ⟨gb230, 2, none⟩ = some (.bool x231002_1) := (blk_cell BK230.out 2).trans rfl
                 have hcz72_3 : wc.cell? ⟨gb230, 3, none⟩ = some (.int .i64 x231003_1) := (blk_cell BK230.out 3).trans rfl
                 have hfz72_0 := blk_frozen BK230.out 0
                 have hfz72_1 := blk_frozen BK230.out 1
                 have hfz72_2 := blk_frozen BK230.out 2
                 have hfz72_3 := blk_frozen BK230.out 3
                 obtain ⟨Ao54, co54, eo73⟩ := Kd.V_slice HO_231000.out
                 subst eo73
                 try go_wp2_with (first | ((with_reducible refine gate_callee (f := 9) rfl ?_); refine goesL_ (some 73) rfl rfl Try.func9 (by kernel_rfl) rfl #[.agg #[.slice Ao54 x231000_1.length co54, .bool x231001_1, .bool x231002_1, .int .i64 x231003_1], .int .i64 (ji44), .agg #[.int .i64 0, .string (⟨#[]⟩ : ByteArray), .string (⟨#[]⟩ : ByteArray), .int .i64 0]] rfl (by (try simp only [List.map_toArray, List.map_cons, List.map_nil]); first | done | (simp only [hji44]; rfl) | rfl | (simp only [List.length_drop, List.length_take]; rfl)) ?_; (with_reducible refine (clinkerref05_Erase.calls _ _ x231000_1 x231001_1 x231002_1 x231003_1 (ji44) 0 (⟨#[]⟩ : ByteArray) (⟨#[]⟩ : ByteArray) 0 t238 t241 t242 t243 t244 _ ?side1 ?side2 A43.out).mono ?_); (case side1 => repeat (first | exact (Kd.V_reads' HO_231000.out).2.2 | (with_reducible refine Kd.C_alloc ?_ _) | (with_reducible refine Kd.C_drewN ?_ _) | (with_reducible refine Kd.C_drew ?_))); (case side2 => exact (Kd.V_reads' HO_231000.out).2.1); rintro e w55 ⟨v239, rfl, ho0, hb⟩; refine ⟨_, rfl, ?_⟩; have n0_ := Aside0.mk (Kd.V_below (by (with_reducible repeat (first | apply vA | apply vN | apply vD)); exact HO_231000.out) hb); have n1_ := Aside0.mk (Kd.V_lower (Kd.V_mono (ok' := fun k_ => (w.heap.size ≤ k_) ∧ k_ ≠ gb222 ∧ k_ ≠ gb230 ∧ k_ ≠ gb236 ∧ k_ ≠ gb237) ho0 (fun k_ hk_ => ⟨(Nat.le_trans (below_size (by repeat (first | (with_reducible first | exact HB.out | apply below_alloc | apply pw_below_drewN | apply below_drew1 | refine below_set ?_ GE222.out | refine below_set ?_ GE230.out | refine below_set ?_ GE236.out | refine below_set ?_ GE237.out) | exact HB.out))) hk_), (Kd.freshB (g := gb222) (o := .cells #[.slice none 0 0, .bool false, .bool false, .int .i64 0] 26 (0, 0)) (by (with_reducible repeat (first | apply bN | apply bD | apply bA)); exact BK222.out) k_ hk_), (Kd.freshB (g := gb230) (o := .cells #[.slice Ao54 x231000_1.length co54, .bool x231001_1, .bool x231002_1, .int .i64 x231003_1] 26 (0, 0)) (by (with_reducible repeat (first | apply bN | apply bD | apply bA)); exact BK230.out) k_ hk_), (Kd.freshB (g := gb236) (o := .cells #[.bool t233, .string t234, .string t235] 42 (0, 0)) (by (with_reducible repeat (first | apply bN | apply bD | apply bA)); exact BK236.out) k_ hk_), (Kd.freshB (g := gb237) (o := .cells #[.int .i64 x238000_21, .string x238001_21, .string x238002_21, .int .i64 x238003_21] 33 (0, 0)) (by (with_reducible repeat (first | apply bN | apply bD | apply bA)); exact BK237.out) k_ hk_)⟩)) (below_size (by repeat (first | (with_reducible first | exact HB.out | apply below_alloc | apply pw_below_drewN | apply below_drew1 | refine below_set ?_ GE222.out | refine below_set ?_ GE230.out | refine below_set ?_ GE236.out | refine below_set ?_ GE237.out) | exact HB.out)))); have n2_ := Aside0.mk (blk_below (g := gb222) (o := .cells #[.slice none 0 0, .bool false, .bool false, .int .i64 0] 26 (0, 0)) (by (with_reducible repeat (first | apply bN | apply bD | apply bA)); exact BK222.out) hb); have n3_ := Aside0.mk (blk_below (g := gb230) (o := .cells #[.slice Ao54 x231000_1.length co54, .bool x231001_1, .bool x231002_1, .int .i64 x231003_1] 26 (0, 0)) (by (with_reducible repeat (first | apply bN | apply bD | apply bA)); exact BK230.out) hb); have n4_ := Aside0.mk (blk_below (g := gb236) (o := .cells #[.bool t233, .string t234, .string t235] 42 (0, 0)) (by (with_reducible repeat (first | apply bN | apply bD | apply bA)); exact BK236.out) hb); have n5_ := Aside0.mk (blk_below (g := gb237) (o := .cells #[.int .i64 x238000_21, .string x238001_21, .string x238002_21, .int .i64 x238003_21] 33 (0, 0)) (by (with_reducible repeat (first | apply bN | apply bD | apply bA)); exact BK237.out) hb); have n6_ := Aside0.mk (below_step (by repeat (first | (with_reducible first | exact HB.out | apply below_alloc | apply pw_below_drewN | apply below_drew1 | refine below_set ?_ GE222.out | refine below_set ?_ GE230.out | refine below_set ?_ GE236.out | refine below_set ?_ GE237.out) | exact HB.out)) hb); clear HO_231000; clear BK222; clear BK230; clear BK236; clear BK237; clear HB; have HO_231000 := n0_; have HO240 := n1_; have BK222 := n2_; have BK230 := n3_; have BK236 := n4_; have BK237 := n5_; have HB := n6_; clear n0_ n1_ n2_ n3_ n4_ n5_ n6_; (try clear hb); (try clear hb2); (try clear hk); (try clear hi); (try clear ho0); obtain ⟨Ao56, co56, eo75⟩ := Kd.V_slice HO240.out; subst eo75; have hcz76_0 : w55.cell? ⟨gb230, 0, none⟩ = some (.slice Ao54 x231000_1.length co54) := (blk_cell BK230.out 0).trans rfl; have hcz76_1 : w55.cell? ⟨gb230, 1, none⟩ = some (.bool x231001_1) := (blk_cell BK230.out 1).trans rfl; have hcz76_2 : w55.cell? ⟨gb230, 2, none⟩ = some (.bool x231002_1) := (blk_cell BK230.out 2).trans rfl; have hcz76_3 : w55.cell? ⟨gb230, 3, none⟩ = some (.int .i64 x231003_1) := (blk_cell BK230.out 3).trans rfl; have hfz76_0 := blk_frozen BK230.out 0; have hfz76_1 := blk_frozen BK230.out 1; have hfz76_2 := blk_frozen BK230.out 2; have hfz76_3 := blk_frozen BK230.out 3))
                all_goals
                 have n0_ : Aside0 (Kd.V k45 45 ((((w55.setCell ⟨gb230, 0, none⟩ (.slice Ao56 t238.length co56)).setCell ⟨gb230, 1, none⟩ (.bool t241)).setCell ⟨gb230, 2, none⟩ (.bool t242)).setCell ⟨gb230, 3, none⟩ (.int .i64 t243)) w.heap.size (fun k_ => (w.heap.size ≤ k_) ∧ k_ ≠ gb222 ∧ k_ ≠ gb230 ∧ k_ ≠ gb236 ∧ k_ ≠ gb237) (.slice Ao54 x231000_1.length co54) x231000_1) := ⟨by (with_reducible repeat (first | apply vA | apply vN | apply vD)); exact Kd.V_mono (Kd.V_far (p := ⟨gb230, 3, none⟩) (Kd.V_far (p := ⟨gb230, 2, none⟩) (Kd.V_far (p := ⟨gb230, 1, none⟩) (Kd.V_far (p := ⟨gb230, 0, none⟩) (Kd.V_mono HO_231000.out (fun k_ hk => (⟨hk, hk.2.2.1⟩ : _ ∧ k_ ≠ gb230))) (fun _ hk => hk.2) _) (fun _ hk => hk.2) (.bool t241)) (fun _ hk => hk.2) (.bool t242)) (fun _ hk => hk.2) _) (fun _ hk => ⟨hk.1.1, ⟨hk.1.2.1, ⟨hk.1.2.2.1, ⟨hk.1.2.2.2.1, hk.1.2.2.2.2⟩⟩⟩⟩)⟩
                 have n1_ : Aside0 (Kd.V k45 45 ((((w55.setCell ⟨gb230, 0, none⟩ (.slice Ao56 t238.length co56)).setCell ⟨gb230, 1, none⟩ (.bool t241)).setCell ⟨gb230, 2, none⟩ (.bool t242)).setCell ⟨gb230, 3, none⟩ (.int .i64 t243)) w.heap.size (fun k_ => (w.heap.size ≤ k_) ∧ k_ ≠ gb222 ∧ k_ ≠ gb230 ∧ k_ ≠ gb236 ∧ k_ ≠ gb237) (.slice Ao56 t238.length co56) t238) := ⟨by (with_reducible repeat (first | apply vA | apply vN | apply vD)); exact Kd.V_mono (Kd.V_far (p := ⟨gb230, 3, none⟩) (Kd.V_far (p := ⟨gb230, 2, none⟩) (Kd.V_far (p := ⟨gb230, 1, none⟩) (Kd.V_far (p := ⟨gb230, 0, none⟩) (Kd.V_mono HO240.out (fun k_ hk => (⟨hk, hk.2.2.1⟩ : _ ∧ k_ ≠ gb230))) (fun _ hk => hk.2) _) (fun _ hk => hk.2) (.bool t241)) (fun _ hk => hk.2) (.bool t242)) (fun _ hk => hk.2) _) (fun _ hk => ⟨hk.1.1, ⟨hk.1.2.1, ⟨hk.1.2.2.1, ⟨hk.1.2.2.2.1, hk.1.2.2.2.2⟩⟩⟩⟩)⟩
                 have n2_ : Aside0 (((((w55.setCell ⟨gb230, 0, none⟩ (.slice Ao56 t238.length co56)).setCell ⟨gb230, 1, none⟩ (.bool t241)).setCell ⟨gb230, 2, none⟩ (.bool t242)).setCell ⟨gb230, 3, none⟩ (.int .i64 t243)).heap[gb222]? = some (.cells #[.slice none 0 0, .bool false, .bool false, .int .i64 0] 26 (0, 0))) := ⟨by (with_reducible repeat (first | apply bN | apply bD | apply bA)); refine blk_far ?_ NB222_230.out _; (with_reducible repeat (first | apply bN | apply bD | apply bA)); refine blk_far ?_ NB222_230.out _; (with_reducible repeat (first | apply bN | apply bD | apply bA)); refine blk_far ?_ NB222_230.out _; (with_reducible repeat (first | apply bN | apply bD | apply bA)); refine blk_far ?_ NB222_230.out _; (with_reducible repeat (first | apply bN | apply bD | apply bA)); exact BK222.out⟩
                 have n3_ : Aside0 (((((w55.setCell ⟨gb230, 0, none⟩ (.slice Ao56 t238.length co56)).setCell ⟨gb230, 1, none⟩ (.bool t241)).setCell ⟨gb230, 2, none⟩ (.bool t242)).setCell ⟨gb230, 3, none⟩ (.int .i64 t243)).heap[gb230]? = some (.cells #[.slice Ao56 t238.length co56, .bool t241, .bool t242, .int .i64 t243] 26 (0, 0))) := ⟨by (with_reducible repeat (first | apply bN | apply bD | apply bA)); refine blk_put (cs := #[.slice Ao56 t238.length co56, .bool t241, .bool t242, .int .i64 x231003_1]) ?_ 3 _ rfl; (with_reducible repeat (first | apply bN | apply bD | apply bA)); refine blk_put (cs := #[.slice Ao56 t238.length co56, .bool t241, .bool x231002_1, .int .i64 x231003_1]) ?_ 2 _ rfl; (with_reducible repeat (first | apply bN | apply bD | apply bA)); refine blk_put (cs := #[.slice Ao56 t238.length co56, .bool x231001_1, .bool x231002_1, .int .i64 x231003_1]) ?_ 1 _ rfl; (with_reducible repeat (first | apply bN | apply bD | apply bA)); refine blk_put (cs := #[.slice Ao54 x231000_1.length co54, .bool x231001_1, .bool x231002_1, .int .i64 x231003_1]) ?_ 0 _ rfl; (with_reducible repeat (first | apply bN | apply bD | apply bA)); exact BK230.out⟩
                 have n4_ : Aside0 (((((w55.setCell ⟨gb230, 0, none⟩ (.slice Ao56 t238.length co56)).setCell ⟨gb230, 1, none⟩ (.bool t241)).setCell ⟨gb230, 2, none⟩ (.bool t242)).setCell ⟨gb230, 3, none⟩ (.int .i64 t243)).heap[gb236]? = some (.cells #[.bool t233, .string t234, .string t235] 42 (0, 0))) := ⟨by (with_reducible repeat (first | apply bN | apply bD | apply bA)); refine blk_far ?_ NB236_230.out _; (with_reducible repeat (first | apply bN | apply bD | apply bA)); refine blk_far ?_ NB236_230.out _; (with_reducible repeat (first | apply bN | apply bD | apply bA)); refine blk_far ?_ NB236_230.out _; (with_reducible repeat (first | apply bN | apply bD | apply bA)); refine blk_far ?_ NB236_230.out _; (with_reducible repeat (first | apply bN | apply bD | apply bA)); exact BK236.out⟩
                 have n5_ : Aside0 (((((w55.setCell ⟨gb230, 0, none⟩ (.slice Ao56 t238.length co56)).setCell ⟨gb230, 1, none⟩ (.bool t241)).setCell ⟨gb230, 2, none⟩ (.bool t242)).setCell ⟨gb230, 3, none⟩ (.int .i64 t243)).heap[gb237]? = some (.cells #[.int .i64 x238000_21, .string x238001_21, .string x238002_21, .int .i64 x238003_21] 33 (0, 0))) := ⟨by (with_reducible repeat (first | apply bN | apply bD | apply bA)); refine blk_far ?_ NB237_230.out _; (with_reducible repeat (first | apply bN | apply bD | apply bA)); refine blk_far ?_ NB237_230.out _; (with_reducible repeat (first | apply bN | apply bD | apply bA)); refine blk_far ?_ NB237_230.out _; (with_reducible repeat (first | apply bN | apply bD | apply bA)); refine blk_far ?_ NB237_230.out _; (with_reducible repeat (first | apply bN | apply bD | apply bA)); exact BK237.out⟩
                 have n6_ : Aside0 (Below w.heap.size w ((((w55.setCell ⟨gb230, 0, none⟩ (.slice Ao56 t238.length co56)).setCell ⟨gb230, 1, none⟩ (.bool t241)).setCell ⟨gb230, 2, none⟩ (.bool t242)).setCell ⟨gb230, 3, none⟩ (.int .i64 t243))) := ⟨by repeat (first | (with_reducible first | exact HB.out | apply below_alloc | apply pw_below_drewN | apply below_drew1 | refine below_set ?_ GE222.out | refine below_set ?_ GE230.out | refine below_set ?_ GE236.out | refine below_set ?_ GE237.out) | exact HB.out)⟩
                 (try clear HO_231000)
                 (try clear HO240)
                 (try clear BK222)
                 (try clear BK230)
                 (try clear BK236)
                 (try clear BK237)
                 (try clear HB)
                 generalize ((((w55.setCell ⟨gb230, 0, none⟩ (.slice Ao56 t238.length co56)).setCell ⟨gb230, 1, none⟩ (.bool t241)).setCell ⟨gb230, 2, none⟩ (.bool t242)).setCell ⟨gb230, 3, none⟩ (.int .i64 t243)) = w58 at n0_ n1_ n2_ n3_ n4_ n5_ n6_ ⊢
                 have HO_231000 := n0_
                 have HO240 := n1_
                 have BK222 := n2_
                 have BK230 := n3_
                 have BK236 := n4_
                 have BK237 := n5_
                 have HB := n6_
                 clear n0_ n1_ n2_ n3_ n4_ n5_ n6_
                 have n0_ := Aside0.mk (Kd.V_drew HO_231000.out)
                 have n1_ := Aside0.mk (Kd.V_drew HO240.out)
                 have n2_ := Aside0.mk (blk_drew BK222.out)
                 have n3_ := Aside0.mk (blk_drew BK230.out)
                 have n4_ := Aside0.mk (blk_drew BK236.out)
                 have n5_ := Aside0.mk (blk_drew BK237.out)
                 have n6_ := Aside0.mk (below_drew1 HB.out)
                 clear HO_231000
                 clear HO240
                 clear BK222
                 clear BK230
                 clear BK236
                 clear BK237
                 clear HB
                 have HO_231000 := n0_
                 have HO240 := n1_
                 have BK222 := n2_
                 have BK230 := n3_
                 have BK236 := n4_
                 have BK237 := n5_
                 have HB := n6_
                 clear n0_ n1_ n2_ n3_ n4_ n5_ n6_
                 have p245 : 0 ≤ ((ji44) : Int) := of_decide_eq_true (by first | (with_reducible assumption) | assumption)
                 have q245 : (ji44) < (t238.length : Int) := of_decide_eq_true (by first | (with_reducible assumption) | assumption)
                 obtain ⟨ad245, A245_0, c245_0, e245, hx245_0, hx245_1, hx245_2, hx245_3, hl245_0, hi245_0⟩ := at_T45 (Kd.V_reads' HO240.out).2.2 (ji44) p245 q245
                 cases e245
                 obtain ⟨ce245, hce245, hMe245, hcc245⟩ := Kd.V_get HO240.out z45 (ji44) p245 (by first | exact q245 | exact of_decide_eq_true (by first | (with_reducible assumption) | assumption) | (have e_ := (Kd.V_reads' HO240.out).1; omega))
                 obtain ⟨ua245_0, uc245_0, rfl, ul245_0, ge245_0⟩ := k45_openF hMe245
                 have hv245_0 := hcc245 0 _ rfl
                 rw [Nat.add_zero] at hv245_0
                 replace hv245_0 := Option.some.inj (hv245_0.symm.trans hx245_0)
                 injection hv245_0 with hva_ hvn_ hvc_
                 rw [hva_] at ge245_0
                 rw [hvc_] at ul245_0
                 have HL245_0 := Aside0.mk (show Kd.V k42 42 _ w.heap.size _ _ ((rd_T45 t238 (ji44)).f0) from Kd.V_mk ul245_0 ge245_0)
                 clear hva_ hvn_ hvc_ ge245_0 ul245_0
                 clear hcc245 hce245
                 have HR245_0 := Aside0.mk hi245_0
                 have HC245_0 := Aside0.mk hl245_0
                 clear hi245_0 hl245_0
                 replace p245 := eq_true p245
                 replace q245 := eq_true q245
                 refine start_ (n := 17) (S := fun w' => w'.cell? ⟨gb230, 0, none⟩ = some (.slice (some ad245) t238.length co56) ∧ w'.cell? ⟨gb230, 1, none⟩ = some (.bool t241) ∧ w'.cell? ⟨gb230, 2, none⟩ = some (.bool t242) ∧ w'.cell? ⟨gb230, 3, none⟩ = some (.int .i64 t243) ∧ w'.cell? ⟨gb236, 0, none⟩ = some (.bool t233) ∧ w'.cell? ⟨gb236, 1, none⟩ = some (.string t234) ∧ w'.cell? ⟨gb236, 2, none⟩ = some (.string t235) ∧ w'.cell? ⟨gb237, 0, none⟩ = some (.int .i64 x238000_21) ∧ w'.cell? ⟨gb237, 1, none⟩ = some (.string x238001_21) ∧ w'.cell? ⟨gb237, 2, none⟩ = some (.string x238002_21) ∧ w'.cell? ⟨gb237, 3, none⟩ = some (.int .i64 x238003_21) ∧ w'.cell? (ad245.add (((ji44)).toNat * 4)) = some (.slice A245_0 ((rd_T45 t238 (ji44)).f0).length c245_0) ∧ w'.cell? ⟨(ad245.add (((ji44)).toNat * 4)).block, (ad245.add (((ji44)).toNat * 4)).off + 1, none⟩ = some (.int .i64 ((rd_T45 t238 (ji44)).f1)) ∧ w'.cell? ⟨(ad245.add (((ji44)).toNat * 4)).block, (ad245.add (((ji44)).toNat * 4)).off + 2, none⟩ = some (.int .i64 ((rd_T45 t238 (ji44)).f2)) ∧ w'.cell? ⟨(ad245.add (((ji44)).toNat * 4)).block, (ad245.add (((ji44)).toNat * 4)).off + 3, none⟩ = some (.bool ((rd_T45 t238 (ji44)).f3))) (ds := []) #[false, false, false, false, false, false, false, false, false, false, false, false, false, false, false, false, false] (by kernel_rfl) rfl rfl ⟨(blk_cell BK230.out 0).trans rfl, (blk_cell BK230.out 1).trans rfl, (blk_cell BK230.out 2).trans rfl, (blk_cell BK230.out 3).trans rfl, (blk_cell BK236.out 0).trans rfl, (blk_cell BK236.out 1).trans rfl, (blk_cell BK236.out 2).trans rfl, (blk_cell BK237.out 0).trans rfl, (blk_cell BK237.out 1).trans rfl, (blk_cell BK237.out 2).trans rfl, (blk_cell BK237.out 3).trans rfl, hx245_0, hx245_1, hx245_2, hx245_3⟩ (fun hHeld => ?_); refine with_tabW clinkerlaw06_Made.tab15 clinkerlaw06_Made.bits15 (fun HT_ HW_ => ?_)
                 generalize w58.drew = w59 at HO_231000 HO240 BK222 BK230 BK236 BK237 HB HL245_0 HR245_0 hx245_0 hx245_1 hx245_2 hx245_3 hHeld ⊢
                 refine pure_ (i := 1) (N := some 78) (v := ?_) (a' := ?_) #[false, true, false, false, false, false, false, false, false, false, false, false, false, false, false, false, false] rfl rfl (any_of HT_.out (by kernel_rfl)) (fun _ _ _ h => h) (Or.inl ⟨by rfl, ?_⟩) ?_ ?_
                 rotate_left
                 ·
                  intro w'
                  go_simp
                  with_reducible rfl
                 rotate_left
                 ·
                  simp only [Act.put, List.setIfInBounds_toArray, List.set_cons_zero, List.set_cons_succ, i64_w, i32_w]
                  rfl
                 refine pure_ (i := 2) (N := some 79) (v := ?_) (a' := ?_) #[false, true, true, false, false, false, false, false, false, false, false, false, false, false, false, false, false] rfl rfl (any_of HT_.out (by kernel_rfl)) (fun _ _ _ h => h) (Or.inl ⟨by rfl, ?_⟩) ?_ ?_
                 rotate_left
                 ·
                  intro w'
                  go_simp
                  with_reducible rfl
                 rotate_left
                 ·
                  simp only [Act.put, List.setIfInBounds_toArray, List.set_cons_zero, List.set_cons_succ, i64_w, i32_w]
                  rfl
                 refine pure_ (i := 4) (N := some 81) (v := ?_) (a' := ?_) #[false, true, true, false, true, false, false, false, false, false, false, false, false, false, false, false, false] rfl rfl (any_of HT_.out (by kernel_rfl)) (fun _ _ _ h => h) (Or.inl ⟨by rfl, ?_⟩) ?_ ?_
                 rotate_left
                 ·
                  intro w'
                  go_simp
                  with_reducible rfl
                 rotate_left
                 ·
                  simp only [Act.put, List.setIfInBounds_toArray, List.set_cons_zero, List.set_cons_succ, i64_w, i32_w]
                  rfl
                 refine take_ (i := 0) (N := some 77) (v := ?_) (a' := ?_) #[true, true, true, false, true, false, false, false, false, false, false, false, false, false, false, false, false] rfl rfl (take_ofW HT_.out HW_.out (by kernel_rfl)) (fun _ _ _ h => h) (Or.inl ⟨by rfl, ?_⟩) hHeld ?_ ?_
                 rotate_left
                 ·
                  rintro w' ⟨s0, s1, s2, s3, s4, s5, s6, s7, s8, s9, s10, s11, s12, s13, s14⟩
                  go_simp
                  with_reducible rfl
                 rotate_left
                 ·
                  simp only [Act.put, List.setIfInBounds_toArray, List.set_cons_zero, List.set_cons_succ, i64_w, i32_w]
                  rfl
                 refine take_ (i := 3) (N := some 80) (v := ?_) (a' := ?_) #[true, true, true, true, true, false, false, false, false, false, false, false, false, false, false, false, false] rfl rfl (take_ofW HT_.out HW_.out (by kernel_rfl)) (fun _ _ _ h => h) (Or.inl ⟨by rfl, ?_⟩) hHeld ?_ ?_
                 rotate_left
                 ·
                  rintro w' ⟨s0, s1, s2, s3, s4, s5, s6, s7, s8, s9, s10, s11, s12, s13, s14⟩
                  go_simp
                  with_reducible rfl
                 rotate_left
                 ·
                  simp only [Act.put, List.setIfInBounds_toArray, List.set_cons_zero, List.set_cons_succ, i64_w, i32_w]
                  rfl
                 refine pure_ (i := 5) (N := some 82) (v := ?_) (a' := ?_) #[true, true, true, true, true, true, false, false, false, false, false, false, false, false, false, false, false] rfl rfl (any_of HT_.out (by kernel_rfl)) (fun _ _ _ h => h) (Or.inl ⟨by rfl, ?_⟩) ?_ ?_
                 rotate_left
                 ·
                  intro w'
                  go_simp
                  with_reducible rfl
                 rotate_left
                 ·
                  simp only [Act.put, List.setIfInBounds_toArray, List.set_cons_zero, List.set_cons_succ, i64_w, i32_w]
                  rfl
                 refine pure_ (i := 6) (N := some 83) (v := ?_) (a' := ?_) #[true, true, true, true, true, true, true, false, false, false, false, false, false, false, false, false, false] rfl rfl (any_of HT_.out (by kernel_rfl)) (fun _ _ _ h => h) (Or.inl ⟨by rfl, ?_⟩) ?_ ?_
                 rotate_left
                 ·
                  intro w'
                  go_simp
                  with_reducible rfl
                 rotate_left
                 ·
                  simp only [Act.put, List.setIfInBounds_toArray, List.set_cons_zero, List.set_cons_succ, i64_w, i32_w]
                  rfl
                 refine take_ (i := 7) (N := some 84) (v := ?_) (a' := ?_) #[true, true, true, true, true, true, true, true, false, false, false, false, false, false, false, false, false] rfl rfl (take_ofW HT_.out HW_.out (by kernel_rfl)) (fun _ _ _ h => h) (Or.inl ⟨by rfl, ?_⟩) hHeld ?_ ?_
                 rotate_left
                 ·
                  rintro w' ⟨s0, s1, s2, s3, s4, s5, s6, s7, s8, s9, s10, s11, s12, s13, s14⟩
                  go_simp
                  with_reducible rfl
                 rotate_left
                 ·
                  simp only [Act.put, List.setIfInBounds_toArray, List.set_cons_zero, List.set_cons_succ, i64_w, i32_w]
                  rfl
                 refine take_ (i := 8) (N := some 85) (v := ?_) (a' := ?_) #[true, true, true, true, true, true, true, true, true, false, false, false, false, false, false, false, false] rfl rfl (take_ofW HT_.out HW_.out (by kernel_rfl)) (fun _ _ _ h => h) (Or.inl ⟨by rfl, ?_⟩) hHeld ?_ ?_
                 rotate_left
                 ·
                  rintro w' ⟨s0, s1, s2, s3, s4, s5, s6, s7, s8, s9, s10, s11, s12, s13, s14⟩
                  go_simp
                  with_reducible rfl
                 rotate_left
                 ·
                  simp only [Act.put, List.setIfInBounds_toArray, List.set_cons_zero, List.set_cons_succ, i64_w, i32_w]
                  rfl
                 refine take_ (i := 9) (N := some 86) (v := ?_) (a' := ?_) #[true, true, true, true, true, true, true, true, true, true, false, false, false, false, false, false, false] rfl rfl (take_ofW HT_.out HW_.out (by kernel_rfl)) (fun _ _ _ h => h) (Or.inl ⟨by rfl, ?_⟩) hHeld ?_ ?_
                 rotate_left
                 ·
                  rintro w' ⟨s0, s1, s2, s3, s4, s5, s6, s7, s8, s9, s10, s11, s12, s13, s14⟩
                  go_simp
                  with_reducible rfl
                 rotate_left
                 ·
                  simp only [Act.put, List.setIfInBounds_toArray, List.set_cons_zero, List.set_cons_succ, i64_w, i32_w]
                  rfl
                 refine join_ (σ := Value × Nat) 2 #[true, true, true, true, true, true, true, true, true, true, true, true, true, true, true, false, false] (fun s_ => [(87, .tuple #[.agg #[s_.1, .bool t249, .bool t250, .int .i64 t251], .int .i64 t252]), (16, .pointer (some ⟨s_.2, 0, none⟩)), (76, .tuple #[.agg #[s_.1, .bool t249, .bool t250, .int .i64 t251], .int .i64 t252]), (88, .agg #[s_.1, .bool t249, .bool t250, .int .i64 t251]), (89, .int .i64 t252)]) (fun s_ w' => (w'.cell? ⟨gb230, 0, none⟩ = some (.slice (some ad245) t238.length co56) ∧ w'.cell? ⟨gb230, 1, none⟩ = some (.bool t241) ∧ w'.cell? ⟨gb230, 2, none⟩ = some (.bool t242) ∧ w'.cell? ⟨gb230, 3, none⟩ = some (.int .i64 t243) ∧ w'.cell? ⟨gb236, 0, none⟩ = some (.bool t233) ∧ w'.cell? ⟨gb236, 1, none⟩ = some (.string t234) ∧ w'.cell? ⟨gb236, 2, none⟩ = some (.string t235) ∧ w'.cell? ⟨gb237, 0, none⟩ = some (.int .i64 x238000_21) ∧ w'.cell? ⟨gb237, 1, none⟩ = some (.string x238001_21) ∧ w'.cell? ⟨gb237, 2, none⟩ = some (.string x238002_21) ∧ w'.cell? ⟨gb237, 3, none⟩ = some (.int .i64 x238003_21) ∧ w'.cell? (ad245.add (((ji44)).toNat * 4)) = some (.slice A245_0 ((rd_T45 t238 (ji44)).f0).length c245_0) ∧ w'.cell? ⟨(ad245.add (((ji44)).toNat * 4)).block, (ad245.add (((ji44)).toNat * 4)).off + 1, none⟩ = some (.int .i64 ((rd_T45 t238 (ji44)).f1)) ∧ w'.cell? ⟨(ad245.add (((ji44)).toNat * 4)).block, (ad245.add (((ji44)).toNat * 4)).off + 2, none⟩ = some (.int .i64 ((rd_T45 t238 (ji44)).f2)) ∧ w'.cell? ⟨(ad245.add (((ji44)).toNat * 4)).block, (ad245.add (((ji44)).toNat * 4)).off + 3, none⟩ = some (.bool ((rd_T45 t238 (ji44)).f3))) ∧ (Kd.V k42 42 w' w.heap.size (fun k_ => (w.heap.size ≤ k_) ∧ k_ ≠ gb222 ∧ k_ ≠ gb230 ∧ k_ ≠ gb236 ∧ k_ ≠ gb237 ∧ k_ ≠ s_.2) (.slice A245_0 ((rd_T45 t238 (ji44)).f0).length c245_0) ((rd_T45 t238 (ji44)).f0)) ∧ (Kd.V k45 45 w' w.heap.size (fun k_ => (w.heap.size ≤ k_) ∧ k_ ≠ gb222 ∧ k_ ≠ gb230 ∧ k_ ≠ gb236 ∧ k_ ≠ gb237 ∧ k_ ≠ s_.2) (.slice (some ad245) t238.length co56) t238) ∧ (Kd.V k45 45 w' w.heap.size (fun k_ => (w.heap.size ≤ k_) ∧ k_ ≠ gb222 ∧ k_ ≠ gb230 ∧ k_ ≠ gb236 ∧ k_ ≠ gb237 ∧ k_ ≠ s_.2) s_.1 t246) ∧ (Kd.V k45 45 w' w.heap.size (fun k_ => (w.heap.size ≤ k_) ∧ k_ ≠ gb222 ∧ k_ ≠ gb230 ∧ k_ ≠ gb236 ∧ k_ ≠ gb237 ∧ k_ ≠ s_.2) (.slice Ao54 x231000_1.length co54) x231000_1) ∧ (w'.heap[gb222]? = some (.cells #[.slice none 0 0, .bool false, .bool false, .int .i64 0] 26 (0, 0))) ∧ (w'.heap[gb230]? = some (.cells #[.slice (some ad245) t238.length co56, .bool t241, .bool t242, .int .i64 t243] 26 (0, 0))) ∧ (w'.heap[gb236]? = some (.cells #[.bool t233, .string t234, .string t235] 42 (0, 0))) ∧ (w'.heap[gb237]? = some (.cells #[.int .i64 x238000_21, .string x238001_21, .string x238002_21, .int .i64 x238003_21] 33 (0, 0))) ∧ (w'.heap[s_.2]? = some (.cells #[.slice none 0 0, .bool false, .bool false, .int .i64 0] 26 (0, 0))) ∧ (w.heap.size ≤ s_.2) ∧ (w.heap.size ≤ s_.2) ∧ (gb222 ≠ s_.2) ∧ (s_.2 ≠ gb222) ∧ (gb230 ≠ s_.2) ∧ (s_.2 ≠ gb230) ∧ (gb236 ≠ s_.2) ∧ (s_.2 ≠ gb236) ∧ (gb237 ≠ s_.2) ∧ (s_.2 ≠ gb237) ∧ (Below w.heap.size w w')) ?_ ?_
                 rotate_left
                 ·
                  intro hCont
                  refine two_ (i := 10) (j := 14) (Ni := some 87) (Nj := some 16) #[true, true, true, true, true, true, true, true, true, true, true, false, false, false, false, false, false] #[true, true, true, true, true, true, true, true, true, true, false, false, false, false, true, false, false] rfl rfl rfl rfl (two_of HT_.out (by kernel_rfl)) (by decide) (by decide) (fun K hK => ?_) (fun K hK => ?_)
                  ·
                   skip
                   refine goes_ Try.func13 (by kernel_rfl) rfl #[.agg #[.slice (some ad245) t238.length co56, .bool t241, .bool t242, .int .i64 t243], .int .i64 (ji44), .int .i64 ((rd_T45 t238 (ji44)).f1), .agg #[.bool t233, .string t234, .string t235], .agg #[.int .i64 x238000_21, .string x238001_21, .string x238002_21, .int .i64 x238003_21]] (by rfl) rfl rfl (by (try simp only [List.map_toArray, List.map_cons, List.map_nil]); first | done | (simp only [hji44]; rfl) | rfl | (simp only [List.length_drop, List.length_take]; rfl)) ?_
                   with_reducible refine (clinkerref05_Program.calls _ _ t238 t241 t242 t243 (ji44) ((rd_T45 t238 (ji44)).f1) t233 t234 t235 x238000_21 x238001_21 x238002_21 x238003_21 t246 t249 t250 t251 t252 _ ?side1 ?side2 A47.out).mono ?_
                   (case side1 => repeat (first | exact (Kd.V_reads' HO240.out).2.2 | (with_reducible refine Kd.C_alloc ?_ _) | (with_reducible refine Kd.C_drewN ?_ _) | (with_reducible refine Kd.C_drew ?_)))
                   (case side2 => exact (Kd.V_reads' HO240.out).2.1)
                   rintro e w60 ⟨v247, rfl, ho0, hb⟩
                   have HS11_ := (hb.cell (World.block_lt_of_cell? _ _ (hHeld.2.2.2.2.2.2.2.2.2.2.2.1))).trans (hHeld.2.2.2.2.2.2.2.2.2.2.2.1)
                   have HS12_ := (hb.cell (World.block_lt_of_cell? _ _ (hHeld.2.2.2.2.2.2.2.2.2.2.2.2.1))).trans (hHeld.2.2.2.2.2.2.2.2.2.2.2.2.1)
                   have HS13_ := (hb.cell (World.block_lt_of_cell? _ _ (hHeld.2.2.2.2.2.2.2.2.2.2.2.2.2.1))).trans (hHeld.2.2.2.2.2.2.2.2.2.2.2.2.2.1)
                   have HS14_ := (hb.cell (World.block_lt_of_cell? _ _ (hHeld.2.2.2.2.2.2.2.2.2.2.2.2.2.2))).trans (hHeld.2.2.2.2.2.2.2.2.2.2.2.2.2.2)
                   refine ⟨_, rfl, ?_⟩
                   have n0_ := Aside0.mk (Kd.V_below (by (with_reducible repeat (first | apply vA | apply vN | apply vD)); exact HO_231000.out) hb)
                   have n1_ := Aside0.mk (Kd.V_below (by (with_reducible repeat (first | apply vA | apply vN | apply vD)); exact HO240.out) hb)
                   have n2_ := Aside0.mk (Kd.V_below (by (with_reducible repeat (first | apply vA | apply vN | apply vD)); exact HL245_0.out) hb)
                   have n3_ := Aside0.mk (Kd.V_lower (Kd.V_mono (ok' := fun k_ => (w.heap.size ≤ k_) ∧ k_ ≠ gb222 ∧ k_ ≠ gb230 ∧ k_ ≠ gb236 ∧ k_ ≠ gb237) ho0 (fun k_ hk_ => ⟨(Nat.le_trans (below_size (by repeat (first | (with_reducible first | exact HB.out | apply below_alloc | apply pw_below_drewN | apply below_drew1 | refine below_set ?_ GE222.out | refine below_set ?_ GE230.out | refine below_set ?_ GE236.out | refine below_set ?_ GE237.out) | exact HB.out))) hk_), (Kd.freshB (g := gb222) (o := .cells #[.slice none 0 0, .bool false, .bool false, .int .i64 0] 26 (0, 0)) (by (with_reducible repeat (first | apply bN | apply bD | apply bA)); exact BK222.out) k_ hk_), (Kd.freshB (g := gb230) (o := .cells #[.slice (some ad245) t238.length co56, .bool t241, .bool t242, .int .i64 t243] 26 (0, 0)) (by (with_reducible repeat (first | apply bN | apply bD | apply bA)); exact BK230.out) k_ hk_), (Kd.freshB (g := gb236) (o := .cells #[.bool t233, .string t234, .string t235] 42 (0, 0)) (by (with_reducible repeat (first | apply bN | apply bD | apply bA)); exact BK236.out) k_ hk_), (Kd.freshB (g := gb237) (o := .cells #[.int .i64 x238000_21, .string x238001_21, .string x238002_21, .int .i64 x238003_21] 33 (0, 0)) (by (with_reducible repeat (first | apply bN | apply bD | apply bA)); exact BK237.out) k_ hk_)⟩)) (below_size (by repeat (first | (with_reducible first | exact HB.out | apply below_alloc | apply pw_below_drewN | apply below_drew1 | refine below_set ?_ GE222.out | refine below_set ?_ GE230.out | refine below_set ?_ GE236.out | refine below_set ?_ GE237.out) | exact HB.out))))
                   have n4_ := Aside0.mk (blk_below (g := gb222) (o := .cells #[.slice none 0 0, .bool false, .bool false, .int .i64 0] 26 (0, 0)) (by (with_reducible repeat (first | apply bN | apply bD | apply bA)); exact BK222.out) hb)
                   have n5_ := Aside0.mk (blk_below (g := gb230) (o := .cells #[.slice (some ad245) t238.length co56, .bool t241, .bool t242, .int .i64 t243] 26 (0, 0)) (by (with_reducible repeat (first | apply bN | apply bD | apply bA)); exact BK230.out) hb)
                   have n6_ := Aside0.mk (blk_below (g := gb236) (o := .cells #[.bool t233, .string t234, .string t235] 42 (0, 0)) (by (with_reducible repeat (first | apply bN | apply bD | apply bA)); exact BK236.out) hb)
                   have n7_ := Aside0.mk (blk_below (g := gb237) (o := .cells #[.int .i64 x238000_21, .string x238001_21, .string x238002_21, .int .i64 x238003_21] 33 (0, 0)) (by (with_reducible repeat (first | apply bN | apply bD | apply bA)); exact BK237.out) hb)
                   have n8_ := Aside0.mk (Kd.C_below (by repeat (first | (with_reducible exact HR245_0.out) | (with_reducible refine Kd.C_alloc ?_ _) | (with_reducible refine Kd.C_drewN ?_ _) | (with_reducible refine Kd.C_drew ?_) | exact HR245_0.out)) hb)
                   have n9_ := Aside0.mk (below_step (by repeat (first | (with_reducible first | exact HB.out | apply below_alloc | apply pw_below_drewN | apply below_drew1 | refine below_set ?_ GE222.out | refine below_set ?_ GE230.out | refine below_set ?_ GE236.out | refine below_set ?_ GE237.out) | exact HB.out)) hb)
                   clear HO_231000
                   clear HO240
                   clear HL245_0
                   clear BK222
                   clear BK230
                   clear BK236
                   clear BK237
                   clear HR245_0
                   clear HB
                   have HO_231000 := n0_
                   have HO240 := n1_
                   have HL245_0 := n2_
                   have HO248 := n3_
                   have BK222 := n4_
                   have BK230 := n5_
                   have BK236 := n6_
                   have BK237 := n7_
                   have HR245_0 := n8_
                   have HB := n9_
                   clear n0_ n1_ n2_ n3_ n4_ n5_ n6_ n7_ n8_ n9_
                   (try clear hb)
                   (try clear hb2)
                   (try clear hk)
                   (try clear hi)
                   (try clear ho0)
                   refine hK.out _ _ ⟨(blk_cell BK230.out 0).trans rfl, (blk_cell BK230.out 1).trans rfl, (blk_cell BK230.out 2).trans rfl, (blk_cell BK230.out 3).trans rfl, (blk_cell BK236.out 0).trans rfl, (blk_cell BK236.out 1).trans rfl, (blk_cell BK236.out 2).trans rfl, (blk_cell BK237.out 0).trans rfl, (blk_cell BK237.out 1).trans rfl, (blk_cell BK237.out 2).trans rfl, (blk_cell BK237.out 3).trans rfl, HS11_, HS12_, HS13_, HS14_⟩ (fun hHeld => ?_)
                   clear hK K
                   refine norm_ (a' := ?_) ?_ ?_
                   rotate_left
                   ·
                    show Act.put _ (some 87) _ = _
                    simp only [Act.put, List.setIfInBounds_toArray, List.set_cons_zero, List.set_cons_succ, i64_w, i32_w]
                    rfl
                   refine pure_ (i := 11) (N := some 76) (v := ?_) (a' := ?_) #[true, true, true, true, true, true, true, true, true, true, true, true, false, false, false, false, false] rfl rfl (any_of HT_.out (by kernel_rfl)) (fun _ _ _ h => h) (Or.inl ⟨by rfl, ?_⟩) ?_ ?_
                   rotate_left
                   ·
                    intro w'
                    go_simp
                    with_reducible rfl
                   rotate_left
                   ·
                    simp only [Act.put, List.setIfInBounds_toArray, List.set_cons_zero, List.set_cons_succ, i64_w, i32_w]
                    rfl
                   refine pure_ (i := 12) (N := some 88) (v := ?_) (a' := ?_) #[true, true, true, true, true, true, true, true, true, true, true, true, true, false, false, false, false] rfl rfl (any_of HT_.out (by kernel_rfl)) (fun _ _ _ h => h) (Or.inl ⟨by rfl, ?_⟩) ?_ ?_
                   rotate_left
                   ·
                    intro w'
                    go_simp
                    with_reducible rfl
                   rotate_left
                   ·
                    simp only [Act.put, List.setIfInBounds_toArray, List.set_cons_zero, List.set_cons_succ, i64_w, i32_w]
                    rfl
                   refine pure_ (i := 13) (N := some 89) (v := ?_) (a' := ?_) #[true, true, true, true, true, true, true, true, true, true, true, true, true, true, false, false, false] rfl rfl (any_of HT_.out (by kernel_rfl)) (fun _ _ _ h => h) (Or.inl ⟨by rfl, ?_⟩) ?_ ?_
                   rotate_left
                   ·
                    intro w'
                    go_simp
                    with_reducible rfl
                   rotate_left
                   ·
                    simp only [Act.put, List.setIfInBounds_toArray, List.set_cons_zero, List.set_cons_succ, i64_w, i32_w]
                    rfl
                   refine one_ (i := 14) (N := some 16) #[true, true, true, true, true, true, true, true, true, true, true, true, true, true, true, false, false] rfl rfl (one_of HT_.out (by kernel_rfl)) (by decide) (fun K hK => ?_)
                   refine box_step ?hg (N := 16) ?hd (cs := #[.slice none 0 0, .bool false, .bool false, .int .i64 0]) (t := 26) ?hr ?_; (case hd => rfl); (case hg => rfl); (case hr => first | (go_simp; done) | (go_simp; rfl))
                   intro gb253 hg w61 hbox hb
                   have HS11_ := (hb.cell (World.block_lt_of_cell? _ _ (hHeld.2.2.2.2.2.2.2.2.2.2.2.1))).trans (hHeld.2.2.2.2.2.2.2.2.2.2.2.1)
                   have HS12_ := (hb.cell (World.block_lt_of_cell? _ _ (hHeld.2.2.2.2.2.2.2.2.2.2.2.2.1))).trans (hHeld.2.2.2.2.2.2.2.2.2.2.2.2.1)
                   have HS13_ := (hb.cell (World.block_lt_of_cell? _ _ (hHeld.2.2.2.2.2.2.2.2.2.2.2.2.2.1))).trans (hHeld.2.2.2.2.2.2.2.2.2.2.2.2.2.1)
                   have HS14_ := (hb.cell (World.block_lt_of_cell? _ _ (hHeld.2.2.2.2.2.2.2.2.2.2.2.2.2.2))).trans (hHeld.2.2.2.2.2.2.2.2.2.2.2.2.2.2)
                   have n0_ := Aside0.mk (Kd.V_below (Kd.V_elderB (by (with_reducible repeat (first | apply vA | apply vN | apply vD)); exact HO_231000.out) gb253 (Nat.le_of_eq hg.symm)) hb)
                   have n1_ := Aside0.mk (Kd.V_below (Kd.V_elderB (by (with_reducible repeat (first | apply vA | apply vN | apply vD)); exact HO240.out) gb253 (Nat.le_of_eq hg.symm)) hb)
                   have n2_ := Aside0.mk (Kd.V_below (Kd.V_elderB (by (with_reducible repeat (first | apply vA | apply vN | apply vD)); exact HL245_0.out) gb253 (Nat.le_of_eq hg.symm)) hb)
                   have n3_ := Aside0.mk (Kd.V_below (Kd.V_elderB (by (with_reducible repeat (first | apply vA | apply vN | apply vD)); exact HO248.out) gb253 (Nat.le_of_eq hg.symm)) hb)
                   have n4_ := Aside0.mk (blk_below (g := gb222) (o := .cells #[.slice none 0 0, .bool false, .bool false, .int .i64 0] 26 (0, 0)) (by (with_reducible repeat (first | apply bN | apply bD | apply bA)); exact BK222.out) hb)
                   have n5_ := Aside0.mk (blk_below (g := gb230) (o := .cells #[.slice (some ad245) t238.length co56, .bool t241, .bool t242, .int .i64 t243] 26 (0, 0)) (by (with_reducible repeat (first | apply bN | apply bD | apply bA)); exact BK230.out) hb)
                   have n6_ := Aside0.mk (blk_below (g := gb236) (o := .cells #[.bool t233, .string t234, .string t235] 42 (0, 0)) (by (with_reducible repeat (first | apply bN | apply bD | apply bA)); exact BK236.out) hb)
                   have n7_ := Aside0.mk (blk_below (g := gb237) (o := .cells #[.int .i64 x238000_21, .string x238001_21, .string x238002_21, .int .i64 x238003_21] 33 (0, 0)) (by (with_reducible repeat (first | apply bN | apply bD | apply bA)); exact BK237.out) hb)
                   have n8_ := Aside0.mk (Kd.C_below (by repeat (first | (with_reducible exact HR245_0.out) | (with_reducible refine Kd.C_alloc ?_ _) | (with_reducible refine Kd.C_drewN ?_ _) | (with_reducible refine Kd.C_drew ?_) | exact HR245_0.out)) hb)
                   have n9_ := Aside0.mk (below_step (by repeat (first | (with_reducible first | exact HB.out | apply below_alloc | apply pw_below_drewN | apply below_drew1 | refine below_set ?_ GE222.out | refine below_set ?_ GE230.out | refine below_set ?_ GE236.out | refine below_set ?_ GE237.out) | exact HB.out)) hb)
                   have n10_ := Aside0.mk (hbox)
                   have n11_ := Aside0.mk ((by rw [hg]; exact (below_size (by repeat (first | (with_reducible first | exact HB.out | apply below_alloc | apply pw_below_drewN | apply below_drew1 | refine below_set ?_ GE222.out | refine below_set ?_ GE230.out | refine below_set ?_ GE236.out | refine below_set ?_ GE237.out) | exact HB.out))) : w.heap.size ≤ gb253))
                   have n12_ := Aside0.mk ((by rw [hg]; exact (below_size (by repeat (first | (with_reducible first | exact HB.out | apply below_alloc | apply pw_below_drewN | apply below_drew1 | refine below_set ?_ GE222.out | refine below_set ?_ GE230.out | refine below_set ?_ GE236.out | refine below_set ?_ GE237.out) | exact HB.out))) : w.heap.size ≤ gb253))
                   have n13_ := Aside0.mk ((by rw [hg]; exact Nat.ne_of_lt (blk_lt (g := gb222) (o := .cells #[.slice none 0 0, .bool false, .bool false, .int .i64 0] 26 (0, 0)) (by (with_reducible repeat (first | apply bN | apply bD | apply bA)); exact BK222.out)) : gb222 ≠ gb253))
                   have n14_ := Aside0.mk ((by rw [hg]; exact Nat.ne_of_gt (blk_lt (g := gb222) (o := .cells #[.slice none 0 0, .bool false, .bool false, .int .i64 0] 26 (0, 0)) (by (with_reducible repeat (first | apply bN | apply bD | apply bA)); exact BK222.out)) : gb253 ≠ gb222))
                   have n15_ := Aside0.mk ((by rw [hg]; exact Nat.ne_of_lt (blk_lt (g := gb230) (o := .cells #[.slice (some ad245) t238.length co56, .bool t241, .bool t242, .int .i64 t243] 26 (0, 0)) (by (with_reducible repeat (first | apply bN | apply bD | apply bA)); exact BK230.out)) : gb230 ≠ gb253))
                   have n16_ := Aside0.mk ((by rw [hg]; exact Nat.ne_of_gt (blk_lt (g := gb230) (o := .cells #[.slice (some ad245) t238.length co56, .bool t241, .bool t242, .int .i64 t243] 26 (0, 0)) (by (with_reducible repeat (first | apply bN | apply bD | apply bA)); exact BK230.out)) : gb253 ≠ gb230))
                   have n17_ := Aside0.mk ((by rw [hg]; exact Nat.ne_of_lt (blk_lt (g := gb236) (o := .cells #[.bool t233, .string t234, .string t235] 42 (0, 0)) (by (with_reducible repeat (first | apply bN | apply bD | apply bA)); exact BK236.out)) : gb236 ≠ gb253))
                   have n18_ := Aside0.mk ((by rw [hg]; exact Nat.ne_of_gt (blk_lt (g := gb236) (o := .cells #[.bool t233, .string t234, .string t235] 42 (0, 0)) (by (with_reducible repeat (first | apply bN | apply bD | apply bA)); exact BK236.out)) : gb253 ≠ gb236))
                   have n19_ := Aside0.mk ((by rw [hg]; exact Nat.ne_of_lt (blk_lt (g := gb237) (o := .cells #[.int .i64 x238000_21, .string x238001_21, .string x238002_21, .int .i64 x238003_21] 33 (0, 0)) (by (with_reducible repeat (first | apply bN | apply bD | apply bA)); exact BK237.out)) : gb237 ≠ gb253))
                   have n20_ := Aside0.mk ((by rw [hg]; exact Nat.ne_of_gt (blk_lt (g := gb237) (o := .cells #[.int .i64 x238000_21, .string x238001_21, .string x238002_21, .int .i64 x238003_21] 33 (0, 0)) (by (with_reducible repeat (first | apply bN | apply bD | apply bA)); exact BK237.out)) : gb253 ≠ gb237))
                   clear HO_231000
                   clear HO240
                   clear HL245_0
                   clear HO248
                   clear BK222
                   clear BK230
                   clear BK236
                   clear BK237
                   clear HR245_0
                   clear HB
                   have HO_231000 := n0_
                   have HO240 := n1_
                   have HL245_0 := n2_
                   have HO248 := n3_
                   have BK222 := n4_
                   have BK230 := n5_
                   have BK236 := n6_
                   have BK237 := n7_
                   have HR245_0 := n8_
                   have HB := n9_
                   have BK253 := n10_
                   have GW253 := n11_
                   have GE253 := n12_
                   have NB222_253 := n13_
                   have NB253_222 := n14_
                   have NB230_253 := n15_
                   have NB253_230 := n16_
                   have NB236_253 := n17_
                   have NB253_236 := n18_
                   have NB237_253 := n19_
                   have NB253_237 := n20_
                   clear n0_ n1_ n2_ n3_ n4_ n5_ n6_ n7_ n8_ n9_ n10_ n11_ n12_ n13_ n14_ n15_ n16_ n17_ n18_ n19_ n20_
                   clear hb hbox hg
                   refine hK.out _ _ ⟨(blk_cell BK230.out 0).trans rfl, (blk_cell BK230.out 1).trans rfl, (blk_cell BK230.out 2).trans rfl, (blk_cell BK230.out 3).trans rfl, (blk_cell BK236.out 0).trans rfl, (blk_cell BK236.out 1).trans rfl, (blk_cell BK236.out 2).trans rfl, (blk_cell BK237.out 0).trans rfl, (blk_cell BK237.out 1).trans rfl, (blk_cell BK237.out 2).trans rfl, (blk_cell BK237.out 3).trans rfl, HS11_, HS12_, HS13_, HS14_⟩ (fun hHeld => ?_)
                   clear hK K
                   refine norm_ (a' := ?_) ?_ ?_
                   rotate_left
                   ·
                    show Act.put _ (some 16) _ = _
                    simp only [Act.put, List.setIfInBounds_toArray, List.set_cons_zero, List.set_cons_succ, i64_w, i32_w]
                    rfl
                   exact norm_ (by simp only [putAll, Act.put, List.setIfInBounds_toArray, List.set_cons_zero, List.set_cons_succ]) (hCont (v247, gb253) _ ⟨hHeld, (by (with_reducible repeat (first | apply vA | apply vN | apply vD)); exact Kd.V_mono HL245_0.out (fun _ hk => ⟨hk.1.1, ⟨hk.1.2.1, ⟨hk.1.2.2.1, ⟨hk.1.2.2.2.1, ⟨hk.1.2.2.2.2, hk.2⟩⟩⟩⟩⟩)), (by (with_reducible repeat (first | apply vA | apply vN | apply vD)); exact Kd.V_mono HO240.out (fun _ hk => ⟨hk.1.1, ⟨hk.1.2.1, ⟨hk.1.2.2.1, ⟨hk.1.2.2.2.1, ⟨hk.1.2.2.2.2, hk.2⟩⟩⟩⟩⟩)), (by (with_reducible repeat (first | apply vA | apply vN | apply vD)); exact Kd.V_mono HO248.out (fun _ hk => ⟨hk.1.1, ⟨hk.1.2.1, ⟨hk.1.2.2.1, ⟨hk.1.2.2.2.1, ⟨hk.1.2.2.2.2, hk.2⟩⟩⟩⟩⟩)), (by (with_reducible repeat (first | apply vA | apply vN | apply vD)); exact Kd.V_mono HO_231000.out (fun _ hk => ⟨hk.1.1, ⟨hk.1.2.1, ⟨hk.1.2.2.1, ⟨hk.1.2.2.2.1, ⟨hk.1.2.2.2.2, hk.2⟩⟩⟩⟩⟩)), (by (with_reducible repeat (first | apply bN | apply bD | apply bA)); exact BK222.out), (by (with_reducible repeat (first | apply bN | apply bD | apply bA)); exact BK230.out), (by (with_reducible repeat (first | apply bN | apply bD | apply bA)); exact BK236.out), (by (with_reducible repeat (first | apply bN | apply bD | apply bA)); exact BK237.out), (by (with_reducible repeat (first | apply bN | apply bD | apply bA)); exact BK253.out), GW253.out, GE253.out, NB222_253.out, NB253_222.out, NB230_253.out, NB253_230.out, NB236_253.out, NB253_236.out, NB237_253.out, NB253_237.out, (by repeat (first | (with_reducible first | exact HB.out | apply below_alloc | apply pw_below_drewN | apply below_drew1 | refine below_set ?_ GE222.out | refine below_set ?_ GE230.out | refine below_set ?_ GE236.out | refine below_set ?_ GE237.out | refine below_set ?_ GE253.out) | exact HB.out))⟩)
                  ·
                   skip
                   refine box_step ?hg (N := 16) ?hd (cs := #[.slice none 0 0, .bool false, .bool false, .int .i64 0]) (t := 26) ?hr ?_; (case hd => rfl); (case hg => rfl); (case hr => first | (go_simp; done) | (go_simp; rfl))
                   intro gb253 hg w60 hbox hb
                   have HS11_ := (hb.cell (World.block_lt_of_cell? _ _ (hHeld.2.2.2.2.2.2.2.2.2.2.2.1))).trans (hHeld.2.2.2.2.2.2.2.2.2.2.2.1)
                   have HS12_ := (hb.cell (World.block_lt_of_cell? _ _ (hHeld.2.2.2.2.2.2.2.2.2.2.2.2.1))).trans (hHeld.2.2.2.2.2.2.2.2.2.2.2.2.1)
                   have HS13_ := (hb.cell (World.block_lt_of_cell? _ _ (hHeld.2.2.2.2.2.2.2.2.2.2.2.2.2.1))).trans (hHeld.2.2.2.2.2.2.2.2.2.2.2.2.2.1)
                   have HS14_ := (hb.cell (World.block_lt_of_cell? _ _ (hHeld.2.2.2.2.2.2.2.2.2.2.2.2.2.2))).trans (hHeld.2.2.2.2.2.2.2.2.2.2.2.2.2.2)
                   have n0_ := Aside0.mk (Kd.V_below (Kd.V_elderB (by (with_reducible repeat (first | apply vA | apply vN | apply vD)); exact HO_231000.out) gb253 (Nat.le_of_eq hg.symm)) hb)
                   have n1_ := Aside0.mk (Kd.V_below (Kd.V_elderB (by (with_reducible repeat (first | apply vA | apply vN | apply vD)); exact HO240.out) gb253 (Nat.le_of_eq hg.symm)) hb)
                   have n2_ := Aside0.mk (Kd.V_below (Kd.V_elderB (by (with_reducible repeat (first | apply vA | apply vN | apply vD)); exact HL245_0.out) gb253 (Nat.le_of_eq hg.symm)) hb)
                   have n3_ := Aside0.mk (blk_below (g := gb222) (o := .cells #[.slice none 0 0, .bool false, .bool false, .int .i64 0] 26 (0, 0)) (by (with_reducible repeat (first | apply bN | apply bD | apply bA)); exact BK222.out) hb)
                   have n4_ := Aside0.mk (blk_below (g := gb230) (o := .cells #[.slice (some ad245) t238.length co56, .bool t241, .bool t242, .int .i64 t243] 26 (0, 0)) (by (with_reducible repeat (first | apply bN | apply bD | apply bA)); exact BK230.out) hb)
                   have n5_ := Aside0.mk (blk_below (g := gb236) (o := .cells #[.bool t233, .string t234, .string t235] 42 (0, 0)) (by (with_reducible repeat (first | apply bN | apply bD | apply bA)); exact BK236.out) hb)
                   have n6_ := Aside0.mk (blk_below (g := gb237) (o := .cells #[.int .i64 x238000_21, .string x238001_21, .string x238002_21, .int .i64 x238003_21] 33 (0, 0)) (by (with_reducible repeat (first | apply bN | apply bD | apply bA)); exact BK237.out) hb)
                   have n7_ := Aside0.mk (Kd.C_below (by repeat (first | (with_reducible exact HR245_0.out) | (with_reducible refine Kd.C_alloc ?_ _) | (with_reducible refine Kd.C_drewN ?_ _) | (with_reducible refine Kd.C_drew ?_) | exact HR245_0.out)) hb)
                   have n8_ := Aside0.mk (below_step (by repeat (first | (with_reducible first | exact HB.out | apply below_alloc | apply pw_below_drewN | apply below_drew1 | refine below_set ?_ GE222.out | refine below_set ?_ GE230.out | refine below_set ?_ GE236.out | refine below_set ?_ GE237.out) | exact HB.out)) hb)
                   have n9_ := Aside0.mk (hbox)
                   have n10_ := Aside0.mk ((by rw [hg]; exact (below_size (by repeat (first | (with_reducible first | exact HB.out | apply below_alloc | apply pw_below_drewN | apply below_drew1 | refine below_set ?_ GE222.out | refine below_set ?_ GE230.out | refine below_set ?_ GE236.out | refine below_set ?_ GE237.out) | exact HB.out))) : w.heap.size ≤ gb253))
                   have n11_ := Aside0.mk ((by rw [hg]; exact (below_size (by repeat (first | (with_reducible first | exact HB.out | apply below_alloc | apply pw_below_drewN | apply below_drew1 | refine below_set ?_ GE222.out | refine below_set ?_ GE230.out | refine below_set ?_ GE236.out | refine below_set ?_ GE237.out) | exact HB.out))) : w.heap.size ≤ gb253))
                   have n12_ := Aside0.mk ((by rw [hg]; exact Nat.ne_of_lt (blk_lt (g := gb222) (o := .cells #[.slice none 0 0, .bool false, .bool false, .int .i64 0] 26 (0, 0)) (by (with_reducible repeat (first | apply bN | apply bD | apply bA)); exact BK222.out)) : gb222 ≠ gb253))
                   have n13_ := Aside0.mk ((by rw [hg]; exact Nat.ne_of_gt (blk_lt (g := gb222) (o := .cells #[.slice none 0 0, .bool false, .bool false, .int .i64 0] 26 (0, 0)) (by (with_reducible repeat (first | apply bN | apply bD | apply bA)); exact BK222.out)) : gb253 ≠ gb222))
                   have n14_ := Aside0.mk ((by rw [hg]; exact Nat.ne_of_lt (blk_lt (g := gb230) (o := .cells #[.slice (some ad245) t238.length co56, .bool t241, .bool t242, .int .i64 t243] 26 (0, 0)) (by (with_reducible repeat (first | apply bN | apply bD | apply bA)); exact BK230.out)) : gb230 ≠ gb253))
                   have n15_ := Aside0.mk ((by rw [hg]; exact Nat.ne_of_gt (blk_lt (g := gb230) (o := .cells #[.slice (some ad245) t238.length co56, .bool t241, .bool t242, .int .i64 t243] 26 (0, 0)) (by (with_reducible repeat (first | apply bN | apply bD | apply bA)); exact BK230.out)) : gb253 ≠ gb230))
                   have n16_ := Aside0.mk ((by rw [hg]; exact Nat.ne_of_lt (blk_lt (g := gb236) (o := .cells #[.bool t233, .string t234, .string t235] 42 (0, 0)) (by (with_reducible repeat (first | apply bN | apply bD | apply bA)); exact BK236.out)) : gb236 ≠ gb253))
                   have n17_ := Aside0.mk ((by rw [hg]; exact Nat.ne_of_gt (blk_lt (g := gb236) (o := .cells #[.bool t233, .string t234, .string t235] 42 (0, 0)) (by (with_reducible repeat (first | apply bN | apply bD | apply bA)); exact BK236.out)) : gb253 ≠ gb236))
                   have n18_ := Aside0.mk ((by rw [hg]; exact Nat.ne_of_lt (blk_lt (g := gb237) (o := .cells #[.int .i64 x238000_21, .string x238001_21, .string x238002_21, .int .i64 x238003_21] 33 (0, 0)) (by (with_reducible repeat (first | apply bN | apply bD | apply bA)); exact BK237.out)) : gb237 ≠ gb253))
                   have n19_ := Aside0.mk ((by rw [hg]; exact Nat.ne_of_gt (blk_lt (g := gb237) (o := .cells #[.int .i64 x238000_21, .string x238001_21, .string x238002_21, .int .i64 x238003_21] 33 (0, 0)) (by (with_reducible repeat (first | apply bN | apply bD | apply bA)); exact BK237.out)) : gb253 ≠ gb237))
                   clear HO_231000
                   clear HO240
                   clear HL245_0
                   clear BK222
                   clear BK230
                   clear BK236
                   clear BK237
                   clear HR245_0
                   clear HB
                   have HO_231000 := n0_
                   have HO240 := n1_
                   have HL245_0 := n2_
                   have BK222 := n3_
                   have BK230 := n4_
                   have BK236 := n5_
                   have BK237 := n6_
                   have HR245_0 := n7_
                   have HB := n8_
                   have BK253 := n9_
                   have GW253 := n10_
                   have GE253 := n11_
                   have NB222_253 := n12_
                   have NB253_222 := n13_
                   have NB230_253 := n14_
                   have NB253_230 := n15_
                   have NB236_253 := n16_
                   have NB253_236 := n17_
                   have NB237_253 := n18_
                   have NB253_237 := n19_
                   clear n0_ n1_ n2_ n3_ n4_ n5_ n6_ n7_ n8_ n9_ n10_ n11_ n12_ n13_ n14_ n15_ n16_ n17_ n18_ n19_
                   clear hb hbox hg
                   refine hK.out _ _ ⟨(blk_cell BK230.out 0).trans rfl, (blk_cell BK230.out 1).trans rfl, (blk_cell BK230.out 2).trans rfl, (blk_cell BK230.out 3).trans rfl, (blk_cell BK236.out 0).trans rfl, (blk_cell BK236.out 1).trans rfl, (blk_cell BK236.out 2).trans rfl, (blk_cell BK237.out 0).trans rfl, (blk_cell BK237.out 1).trans rfl, (blk_cell BK237.out 2).trans rfl, (blk_cell BK237.out 3).trans rfl, HS11_, HS12_, HS13_, HS14_⟩ (fun hHeld => ?_)
                   clear hK K
                   refine norm_ (a' := ?_) ?_ ?_
                   rotate_left
                   ·
                    show Act.put _ (some 16) _ = _
                    simp only [Act.put, List.setIfInBounds_toArray, List.set_cons_zero, List.set_cons_succ, i64_w, i32_w]
                    rfl
                   refine one_ (i := 10) (N := some 87) #[true, true, true, true, true, true, true, true, true, true, true, false, false, false, true, false, false] rfl rfl (one_of HT_.out (by kernel_rfl)) (by decide) (fun K hK => ?_)
                   refine goes_ Try.func13 (by kernel_rfl) rfl #[.agg #[.slice (some ad245) t238.length co56, .bool t241, .bool t242, .int .i64 t243], .int .i64 (ji44), .int .i64 ((rd_T45 t238 (ji44)).f1), .agg #[.bool t233, .string t234, .string t235], .agg #[.int .i64 x238000_21, .string x238001_21, .string x238002_21, .int .i64 x238003_21]] (by rfl) rfl rfl (by (try simp only [List.map_toArray, List.map_cons, List.map_nil]); first | done | (simp only [hji44]; rfl) | rfl | (simp only [List.length_drop, List.length_take]; rfl)) ?_
                   with_reducible refine (clinkerref05_Program.calls _ _ t238 t241 t242 t243 (ji44) ((rd_T45 t238 (ji44)).f1) t233 t234 t235 x238000_21 x238001_21 x238002_21 x238003_21 t246 t249 t250 t251 t252 _ ?side1 ?side2 A47.out).mono ?_
                   (case side1 => repeat (first | exact (Kd.V_reads' HO240.out).2.2 | (with_reducible refine Kd.C_alloc ?_ _) | (with_reducible refine Kd.C_drewN ?_ _) | (with_reducible refine Kd.C_drew ?_)))
                   (case side2 => exact (Kd.V_reads' HO240.out).2.1)
                   rintro e w61 ⟨v247, rfl, ho0, hb⟩
                   have HS11_ := (hb.cell (World.block_lt_of_cell? _ _ (hHeld.2.2.2.2.2.2.2.2.2.2.2.1))).trans (hHeld.2.2.2.2.2.2.2.2.2.2.2.1)
                   have HS12_ := (hb.cell (World.block_lt_of_cell? _ _ (hHeld.2.2.2.2.2.2.2.2.2.2.2.2.1))).trans (hHeld.2.2.2.2.2.2.2.2.2.2.2.2.1)
                   have HS13_ := (hb.cell (World.block_lt_of_cell? _ _ (hHeld.2.2.2.2.2.2.2.2.2.2.2.2.2.1))).trans (hHeld.2.2.2.2.2.2.2.2.2.2.2.2.2.1)
                   have HS14_ := (hb.cell (World.block_lt_of_cell? _ _ (hHeld.2.2.2.2.2.2.2.2.2.2.2.2.2.2))).trans (hHeld.2.2.2.2.2.2.2.2.2.2.2.2.2.2)
                   refine ⟨_, rfl, ?_⟩
                   have n0_ := Aside0.mk (Kd.V_below (by (with_reducible repeat (first | apply vA | apply vN | apply vD)); exact HO_231000.out) hb)
                   have n1_ := Aside0.mk (Kd.V_below (by (with_reducible repeat (first | apply vA | apply vN | apply vD)); exact HO240.out) hb)
                   have n2_ := Aside0.mk (Kd.V_below (by (with_reducible repeat (first | apply vA | apply vN | apply vD)); exact HL245_0.out) hb)
                   have n3_ := Aside0.mk (Kd.V_lower (Kd.V_mono (ok' := fun k_ => (w.heap.size ≤ k_) ∧ k_ ≠ gb222 ∧ k_ ≠ gb230 ∧ k_ ≠ gb236 ∧ k_ ≠ gb237 ∧ k_ ≠ gb253) ho0 (fun k_ hk_ => ⟨(Nat.le_trans (below_size (by repeat (first | (with_reducible first | exact HB.out | apply below_alloc | apply pw_below_drewN | apply below_drew1 | refine below_set ?_ GE222.out | refine below_set ?_ GE230.out | refine below_set ?_ GE236.out | refine below_set ?_ GE237.out | refine below_set ?_ GE253.out) | exact HB.out))) hk_), (Kd.freshB (g := gb222) (o := .cells #[.slice none 0 0, .bool false, .bool false, .int .i64 0] 26 (0, 0)) (by (with_reducible repeat (first | apply bN | apply bD | apply bA)); exact BK222.out) k_ hk_), (Kd.freshB (g := gb230) (o := .cells #[.slice (some ad245) t238.length co56, .bool t241, .bool t242, .int .i64 t243] 26 (0, 0)) (by (with_reducible repeat (first | apply bN | apply bD | apply bA)); exact BK230.out) k_ hk_), (Kd.freshB (g := gb236) (o := .cells #[.bool t233, .string t234, .string t235] 42 (0, 0)) (by (with_reducible repeat (first | apply bN | apply bD | apply bA)); exact BK236.out) k_ hk_), (Kd.freshB (g := gb237) (o := .cells #[.int .i64 x238000_21, .string x238001_21, .string x238002_21, .int .i64 x238003_21] 33 (0, 0)) (by (with_reducible repeat (first | apply bN | apply bD | apply bA)); exact BK237.out) k_ hk_), (Kd.freshB (g := gb253) (o := .cells #[.slice none 0 0, .bool false, .bool false, .int .i64 0] 26 (0, 0)) (by (with_reducible repeat (first | apply bN | apply bD | apply bA)); exact BK253.out) k_ hk_)⟩)) (below_size (by repeat (first | (with_reducible first | exact HB.out | apply below_alloc | apply pw_below_drewN | apply below_drew1 | refine below_set ?_ GE222.out | refine below_set ?_ GE230.out | refine below_set ?_ GE236.out | refine below_set ?_ GE237.out | refine below_set ?_ GE253.out) | exact HB.out))))
                   have n4_ := Aside0.mk (blk_below (g := gb222) (o := .cells #[.slice none 0 0, .bool false, .bool false, .int .i64 0] 26 (0, 0)) (by (with_reducible repeat (first | apply bN | apply bD | apply bA)); exact BK222.out) hb)
                   have n5_ := Aside0.mk (blk_below (g := gb230) (o := .cells #[.slice (some ad245) t238.length co56, .bool t241, .bool t242, .int .i64 t243] 26 (0, 0)) (by (with_reducible repeat (first | apply bN | apply bD | apply bA)); exact BK230.out) hb)
                   have n6_ := Aside0.mk (blk_below (g := gb236) (o := .cells #[.bool t233, .string t234, .string t235] 42 (0, 0)) (by (with_reducible repeat (first | apply bN | apply bD | apply bA)); exact BK236.out) hb)
                   have n7_ := Aside0.mk (blk_below (g := gb237) (o := .cells #[.int .i64 x238000_21, .string x238001_21, .string x238002_21, .int .i64 x238003_21] 33 (0, 0)) (by (with_reducible repeat (first | apply bN | apply bD | apply bA)); exact BK237.out) hb)
                   have n8_ := Aside0.mk (Kd.C_below (by repeat (first | (with_reducible exact HR245_0.out) | (with_reducible refine Kd.C_alloc ?_ _) | (with_reducible refine Kd.C_drewN ?_ _) | (with_reducible refine Kd.C_drew ?_) | exact HR245_0.out)) hb)
                   have n9_ := Aside0.mk (blk_below (g := gb253) (o := .cells #[.slice none 0 0, .bool false, .bool false, .int .i64 0] 26 (0, 0)) (by (with_reducible repeat (first | apply bN | apply bD | apply bA)); exact BK253.out) hb)
                   have n10_ := Aside0.mk (below_step (by repeat (first | (with_reducible first | exact HB.out | apply below_alloc | apply pw_below_drewN | apply below_drew1 | refine below_set ?_ GE222.out | refine below_set ?_ GE230.out | refine below_set ?_ GE236.out | refine below_set ?_ GE237.out | refine below_set ?_ GE253.out) | exact HB.out)) hb)
                   clear HO_231000
                   clear HO240
                   clear HL245_0
                   clear BK222
                   clear BK230
                   clear BK236
                   clear BK237
                   clear HR245_0
                   clear BK253
                   clear HB
                   have HO_231000 := n0_
                   have HO240 := n1_
                   have HL245_0 := n2_
                   have HO248 := n3_
                   have BK222 := n4_
                   have BK230 := n5_
                   have BK236 := n6_
                   have BK237 := n7_
                   have HR245_0 := n8_
                   have BK253 := n9_
                   have HB := n10_
                   clear n0_ n1_ n2_ n3_ n4_ n5_ n6_ n7_ n8_ n9_ n10_
                   (try clear hb)
                   (try clear hb2)
                   (try clear hk)
                   (try clear hi)
                   (try clear ho0)
                   refine hK.out _ _ ⟨(blk_cell BK230.out 0).trans rfl, (blk_cell BK230.out 1).trans rfl, (blk_cell BK230.out 2).trans rfl, (blk_cell BK230.out 3).trans rfl, (blk_cell BK236.out 0).trans rfl, (blk_cell BK236.out 1).trans rfl, (blk_cell BK236.out 2).trans rfl, (blk_cell BK237.out 0).trans rfl, (blk_cell BK237.out 1).trans rfl, (blk_cell BK237.out 2).trans rfl, (blk_cell BK237.out 3).trans rfl, HS11_, HS12_, HS13_, HS14_⟩ (fun hHeld => ?_)
                   clear hK K
                   refine norm_ (a' := ?_) ?_ ?_
                   rotate_left
                   ·
                    show Act.put _ (some 87) _ = _
                    simp only [Act.put, List.setIfInBounds_toArray, List.set_cons_zero, List.set_cons_succ, i64_w, i32_w]
                    rfl
                   refine pure_ (i := 11) (N := some 76) (v := ?_) (a' := ?_) #[true, true, true, true, true, true, true, true, true, true, true, true, false, false, true, false, false] rfl rfl (any_of HT_.out (by kernel_rfl)) (fun _ _ _ h => h) (Or.inl ⟨by rfl, ?_⟩) ?_ ?_
                   rotate_left
                   ·
                    intro w'
                    go_simp
                    with_reducible rfl
                   rotate_left
                   ·
                    simp only [Act.put, List.setIfInBounds_toArray, List.set_cons_zero, List.set_cons_succ, i64_w, i32_w]
                    rfl
                   refine pure_ (i := 12) (N := some 88) (v := ?_) (a' := ?_) #[true, true, true, true, true, true, true, true, true, true, true, true, true, false, true, false, false] rfl rfl (any_of HT_.out (by kernel_rfl)) (fun _ _ _ h => h) (Or.inl ⟨by rfl, ?_⟩) ?_ ?_
                   rotate_left
                   ·
                    intro w'
                    go_simp
                    with_reducible rfl
                   rotate_left
                   ·
                    simp only [Act.put, List.setIfInBounds_toArray, List.set_cons_zero, List.set_cons_succ, i64_w, i32_w]
                    rfl
                   refine pure_ (i := 13) (N := some 89) (v := ?_) (a' := ?_) #[true, true, true, true, true, true, true, true, true, true, true, true, true, true, true, false, false] rfl rfl (any_of HT_.out (by kernel_rfl)) (fun _ _ _ h => h) (Or.inl ⟨by rfl, ?_⟩) ?_ ?_
                   rotate_left
                   ·
                    intro w'
                    go_simp
                    with_reducible rfl
                   rotate_left
                   ·
                    simp only [Act.put, List.setIfInBounds_toArray, List.set_cons_zero, List.set_cons_succ, i64_w, i32_w]
                    rfl
                   exact norm_ (by simp only [putAll, Act.put, List.setIfInBounds_toArray, List.set_cons_zero, List.set_cons_succ]) (hCont (v247, gb253) _ ⟨hHeld, (by (with_reducible repeat (first | apply vA | apply vN | apply vD)); exact Kd.V_mono HL245_0.out (fun _ hk => ⟨hk.1.1, ⟨hk.1.2.1, ⟨hk.1.2.2.1, ⟨hk.1.2.2.2.1, ⟨hk.1.2.2.2.2, hk.2⟩⟩⟩⟩⟩)), (by (with_reducible repeat (first | apply vA | apply vN | apply vD)); exact Kd.V_mono HO240.out (fun _ hk => ⟨hk.1.1, ⟨hk.1.2.1, ⟨hk.1.2.2.1, ⟨hk.1.2.2.2.1, ⟨hk.1.2.2.2.2, hk.2⟩⟩⟩⟩⟩)), (by (with_reducible repeat (first | apply vA | apply vN | apply vD)); exact HO248.out), (by (with_reducible repeat (first | apply vA | apply vN | apply vD)); exact Kd.V_mono HO_231000.out (fun _ hk => ⟨hk.1.1, ⟨hk.1.2.1, ⟨hk.1.2.2.1, ⟨hk.1.2.2.2.1, ⟨hk.1.2.2.2.2, hk.2⟩⟩⟩⟩⟩)), (by (with_reducible repeat (first | apply bN | apply bD | apply bA)); exact BK222.out), (by (with_reducible repeat (first | apply bN | apply bD | apply bA)); exact BK230.out), (by (with_reducible repeat (first | apply bN | apply bD | apply bA)); exact BK236.out), (by (with_reducible repeat (first | apply bN | apply bD | apply bA)); exact BK237.out), (by (with_reducible repeat (first | apply bN | apply bD | apply bA)); exact BK253.out), GW253.out, GE253.out, NB222_253.out, NB253_222.out, NB230_253.out, NB253_230.out, NB236_253.out, NB253_236.out, NB237_253.out, NB253_237.out, (by repeat (first | (with_reducible first | exact HB.out | apply below_alloc | apply pw_below_drewN | apply below_drew1 | refine below_set ?_ GE222.out | refine below_set ?_ GE230.out | refine below_set ?_ GE236.out | refine below_set ?_ GE237.out | refine below_set ?_ GE253.out) | exact HB.out))⟩)
                 rintro ⟨v247, gb253⟩ w62 ⟨hS_, h0_, h1_, h2_, h3_, h4_, h5_, h6_, h7_, h8_, h9_, h10_, h11_, h12_, h13_, h14_, h15_, h16_, h17_, h18_, h19_⟩
                 have n0_ : Aside0 (Kd.V k42 42 w62 w.heap.size (fun k_ => (w.heap.size ≤ k_) ∧ k_ ≠ gb222 ∧ k_ ≠ gb230 ∧ k_ ≠ gb236 ∧ k_ ≠ gb237 ∧ k_ ≠ gb253) (.slice A245_0 ((rd_T45 t238 (ji44)).f0).length c245_0) ((rd_T45 t238 (ji44)).f0)) := ⟨h0_⟩
                 have n1_ : Aside0 (Kd.V k45 45 w62 w.heap.size (fun k_ => (w.heap.size ≤ k_) ∧ k_ ≠ gb222 ∧ k_ ≠ gb230 ∧ k_ ≠ gb236 ∧ k_ ≠ gb237 ∧ k_ ≠ gb253) (.slice (some ad245) t238.length co56) t238) := ⟨h1_⟩
                 have n2_ : Aside0 (Kd.V k45 45 w62 w.heap.size (fun k_ => (w.heap.size ≤ k_) ∧ k_ ≠ gb222 ∧ k_ ≠ gb230 ∧ k_ ≠ gb236 ∧ k_ ≠ gb237 ∧ k_ ≠ gb253) v247 t246) := ⟨h2_⟩
                 have n3_ : Aside0 (Kd.V k45 45 w62 w.heap.size (fun k_ => (w.heap.size ≤ k_) ∧ k_ ≠ gb222 ∧ k_ ≠ gb230 ∧ k_ ≠ gb236 ∧ k_ ≠ gb237 ∧ k_ ≠ gb253) (.slice Ao54 x231000_1.length co54) x231000_1) := ⟨h3_⟩
                 have n4_ : Aside0 (w62.heap[gb222]? = some (.cells #[.slice none 0 0, .bool false, .bool false, .int .i64 0] 26 (0, 0))) := ⟨h4_⟩
                 have n5_ : Aside0 (w62.heap[gb230]? = some (.cells #[.slice (some ad245) t238.length co56, .bool t241, .bool t242, .int .i64 t243] 26 (0, 0))) := ⟨h5_⟩
                 have n6_ : Aside0 (w62.heap[gb236]? = some (.cells #[.bool t233, .string t234, .string t235] 42 (0, 0))) := ⟨h6_⟩
                 have n7_ : Aside0 (w62.heap[gb237]? = some (.cells #[.int .i64 x238000_21, .string x238001_21, .string x238002_21, .int .i64 x238003_21] 33 (0, 0))) := ⟨h7_⟩
                 have n8_ : Aside0 (w62.heap[gb253]? = some (.cells #[.slice none 0 0, .bool false, .bool false, .int .i64 0] 26 (0, 0))) := ⟨h8_⟩
                 have n9_ : Aside0 (w.heap.size ≤ gb253) := ⟨h9_⟩
                 have n10_ : Aside0 (w.heap.size ≤ gb253) := ⟨h10_⟩
                 have n11_ : Aside0 (gb222 ≠ gb253) := ⟨h11_⟩
                 have n12_ : Aside0 (gb253 ≠ gb222) := ⟨h12_⟩
                 have n13_ : Aside0 (gb230 ≠ gb253) := ⟨h13_⟩
                 have n14_ : Aside0 (gb253 ≠ gb230) := ⟨h14_⟩
                 have n15_ : Aside0 (gb236 ≠ gb253) := ⟨h15_⟩
                 have n16_ : Aside0 (gb253 ≠ gb236) := ⟨h16_⟩
                 have n17_ : Aside0 (gb237 ≠ gb253) := ⟨h17_⟩
                 have n18_ : Aside0 (gb253 ≠ gb237) := ⟨h18_⟩
                 have n19_ : Aside0 (Below w.heap.size w w62) := ⟨h19_⟩
                 clear HO_231000
                 clear HO240
                 clear BK222
                 clear BK230
                 clear BK236
                 clear BK237
                 clear HB
                 clear h0_ h1_ h2_ h3_ h4_ h5_ h6_ h7_ h8_ h9_ h10_ h11_ h12_ h13_ h14_ h15_ h16_ h17_ h18_ h19_
                 have HL245_0 := n0_
                 have HO240 := n1_
                 have HO248 := n2_
                 have HO_231000 := n3_
                 have BK222 := n4_
                 have BK230 := n5_
                 have BK236 := n6_
                 have BK237 := n7_
                 have BK253 := n8_
                 have GW253 := n9_
                 have GE253 := n10_
                 have NB222_253 := n11_
                 have NB253_222 := n12_
                 have NB230_253 := n13_
                 have NB253_230 := n14_
                 have NB236_253 := n15_
                 have NB253_236 := n16_
                 have NB237_253 := n17_
                 have NB253_237 := n18_
                 have HB := n19_
                 clear n0_ n1_ n2_ n3_ n4_ n5_ n6_ n7_ n8_ n9_ n10_ n11_ n12_ n13_ n14_ n15_ n16_ n17_ n18_ n19_
                 have hHeld : w62.cell? ⟨gb230, 0, none⟩ = some (.slice (some ad245) t238.length co56) ∧ w62.cell? ⟨gb230, 1, none⟩ = some (.bool t241) ∧ w62.cell? ⟨gb230, 2, none⟩ = some (.bool t242) ∧ w62.cell? ⟨gb230, 3, none⟩ = some (.int .i64 t243) ∧ w62.cell? ⟨gb236, 0, none⟩ = some (.bool t233) ∧ w62.cell? ⟨gb236, 1, none⟩ = some (.string t234) ∧ w62.cell? ⟨gb236, 2, none⟩ = some (.string t235) ∧ w62.cell? ⟨gb237, 0, none⟩ = some (.int .i64 x238000_21) ∧ w62.cell? ⟨gb237, 1, none⟩ = some (.string x238001_21) ∧ w62.cell? ⟨gb237, 2, none⟩ = some (.string x238002_21) ∧ w62.cell? ⟨gb237, 3, none⟩ = some (.int .i64 x238003_21) ∧ w62.cell? (ad245.add (((ji44)).toNat * 4)) = some (.slice A245_0 ((rd_T45 t238 (ji44)).f0).length c245_0) ∧ w62.cell? ⟨(ad245.add (((ji44)).toNat * 4)).block, (ad245.add (((ji44)).toNat * 4)).off + 1, none⟩ = some (.int .i64 ((rd_T45 t238 (ji44)).f1)) ∧ w62.cell? ⟨(ad245.add (((ji44)).toNat * 4)).block, (ad245.add (((ji44)).toNat * 4)).off + 2, none⟩ = some (.int .i64 ((rd_T45 t238 (ji44)).f2)) ∧ w62.cell? ⟨(ad245.add (((ji44)).toNat * 4)).block, (ad245.add (((ji44)).toNat * 4)).off + 3, none⟩ = some (.bool ((rd_T45 t238 (ji44)).f3)) := hS_
                 obtain ⟨Ao63, co63, eo63⟩ := Kd.V_slice HO248.out
                 (first | subst eo63 | (injection eo63 with f1_ f2_ f3_; have f4_ := f1_.symm; have f5_ := f3_.symm; clear f1_ f2_ f3_; subst f4_; subst f5_))
                 refine norm_ (a' := ?_) ?_ ?_
                 rotate_left
                 ·
                  simp only [putAll, Act.put, List.setIfInBounds_toArray, List.set_cons_zero, List.set_cons_succ]
                  rfl
                 refine one_ (i := 15) (N := none) #[true, true, true, true, true, true, true, true, true, true, true, true, true, true, true, true, false] rfl rfl (one_of HT_.out (by kernel_rfl)) (by decide) (fun K hK => ?_)
                 have hs64 : w62.cell? ⟨gb253, 0, none⟩ = some (.slice none 0 0) := (blk_cell BK253.out 0).trans rfl
                 have hfs64 := blk_frozen BK253.out 0
                 have hns64_0 := NB222_253.out
                 have hns64_1 := NB230_253.out
                 have hns64_2 := NB236_253.out
                 have hns64_3 := NB237_253.out
                 have hms64_0 := NB253_222.out
                 have hms64_1 := NB253_230.out
                 have hms64_2 := NB253_236.out
                 have hms64_3 := NB253_237.out
                 have hs65 : w62.cell? ⟨gb253, 1, none⟩ = some (.bool false) := (blk_cell BK253.out 1).trans rfl
                 have hfs65 := blk_frozen BK253.out 1
                 have hns65_0 := NB222_253.out
                 have hns65_1 := NB230_253.out
                 have hns65_2 := NB236_253.out
                 have hns65_3 := NB237_253.out
                 have hms65_0 := NB253_222.out
                 have hms65_1 := NB253_230.out
                 have hms65_2 := NB253_236.out
                 have hms65_3 := NB253_237.out
                 have hs66 : w62.cell? ⟨gb253, 2, none⟩ = some (.bool false) := (blk_cell BK253.out 2).trans rfl
                 have hfs66 := blk_frozen BK253.out 2
                 have hns66_0 := NB222_253.out
                 have hns66_1 := NB230_253.out
                 have hns66_2 := NB236_253.out
                 have hns66_3 := NB237_253.out
                 have hms66_0 := NB253_222.out
                 have hms66_1 := NB253_230.out
                 have hms66_2 := NB253_236.out
                 have hms66_3 := NB253_237.out
                 have hs67 : w62.cell? ⟨gb253, 3, none⟩ = some (.int .i64 0) := (blk_cell BK253.out 3).trans rfl
                 have hfs67 := blk_frozen BK253.out 3
                 have hns67_0 := NB222_253.out
                 have hns67_1 := NB230_253.out
                 have hns67_2 := NB236_253.out
                 have hns67_3 := NB237_253.out
                 have hms67_0 := NB253_222.out
                 have hms67_1 := NB253_230.out
                 have hms67_2 := NB253_236.out
                 have hms67_3 := NB253_237.out
                 refine skip_ (w1 := ?_) (by rfl) rfl ?_ ?_
                 rotate_left
                 ·
                  go_simp
                  rfl
                 have hF0_ : (ad245.add ((ji44).toNat * 4)).block ≠ gb253 := by rw [add_block]; exact vaw HO240.out ji44 (by first | exact of_eq_true p245 | assumption | omega) (by first | exact of_eq_true q245 | assumption | omega) (fun _ hk => hk.2.2.2.2.2)
                 refine hK.out _ _ ⟨((cell_far (p := ⟨gb253, _, none⟩) NB230_253.out _).trans (((cell_far (p := ⟨gb253, _, none⟩) NB230_253.out _).trans (((cell_far (p := ⟨gb253, _, none⟩) NB230_253.out _).trans (((cell_far (p := ⟨gb253, _, none⟩) NB230_253.out _).trans (hHeld.1)))))))), ((cell_far (p := ⟨gb253, _, none⟩) NB230_253.out _).trans (((cell_far (p := ⟨gb253, _, none⟩) NB230_253.out _).trans (((cell_far (p := ⟨gb253, _, none⟩) NB230_253.out _).trans (((cell_far (p := ⟨gb253, _, none⟩) NB230_253.out _).trans (hHeld.2.1)))))))), ((cell_far (p := ⟨gb253, _, none⟩) NB230_253.out _).trans (((cell_far (p := ⟨gb253, _, none⟩) NB230_253.out _).trans (((cell_far (p := ⟨gb253, _, none⟩) NB230_253.out _).trans (((cell_far (p := ⟨gb253, _, none⟩) NB230_253.out _).trans (hHeld.2.2.1)))))))), ((cell_far (p := ⟨gb253, _, none⟩) NB230_253.out _).trans (((cell_far (p := ⟨gb253, _, none⟩) NB230_253.out _).trans (((cell_far (p := ⟨gb253, _, none⟩) NB230_253.out _).trans (((cell_far (p := ⟨gb253, _, none⟩) NB230_253.out _).trans (hHeld.2.2.2.1)))))))), ((cell_far (p := ⟨gb253, _, none⟩) NB236_253.out _).trans (((cell_far (p := ⟨gb253, _, none⟩) NB236_253.out _).trans (((cell_far (p := ⟨gb253, _, none⟩) NB236_253.out _).trans (((cell_far (p := ⟨gb253, _, none⟩) NB236_253.out _).trans (hHeld.2.2.2.2.1)))))))), ((cell_far (p := ⟨gb253, _, none⟩) NB236_253.out _).trans (((cell_far (p := ⟨gb253, _, none⟩) NB236_253.out _).trans (((cell_far (p := ⟨gb253, _, none⟩) NB236_253.out _).trans (((cell_far (p := ⟨gb253, _, none⟩) NB236_253.out _).trans (hHeld.2.2.2.2.2.1)))))))), ((cell_far (p := ⟨gb253, _, none⟩) NB236_253.out _).trans (((cell_far (p := ⟨gb253, _, none⟩) NB236_253.out _).trans (((cell_far (p := ⟨gb253, _, none⟩) NB236_253.out _).trans (((cell_far (p := ⟨gb253, _, none⟩) NB236_253.out _).trans (hHeld.2.2.2.2.2.2.1)))))))), ((cell_far (p := ⟨gb253, _, none⟩) NB237_253.out _).trans (((cell_far (p := ⟨gb253, _, none⟩) NB237_253.out _).trans (((cell_far (p := ⟨gb253, _, none⟩) NB237_253.out _).trans (((cell_far (p := ⟨gb253, _, none⟩) NB237_253.out _).trans (hHeld.2.2.2.2.2.2.2.1)))))))), ((cell_far (p := ⟨gb253, _, none⟩) NB237_253.out _).trans (((cell_far (p := ⟨gb253, _, none⟩) NB237_253.out _).trans (((cell_far (p := ⟨gb253, _, none⟩) NB237_253.out _).trans (((cell_far (p := ⟨gb253, _, none⟩) NB237_253.out _).trans (hHeld.2.2.2.2.2.2.2.2.1)))))))), ((cell_far (p := ⟨gb253, _, none⟩) NB237_253.out _).trans (((cell_far (p := ⟨gb253, _, none⟩) NB237_253.out _).trans (((cell_far (p := ⟨gb253, _, none⟩) NB237_253.out _).trans (((cell_far (p := ⟨gb253, _, none⟩) NB237_253.out _).trans (hHeld.2.2.2.2.2.2.2.2.2.1)))))))), ((cell_far (p := ⟨gb253, _, none⟩) NB237_253.out _).trans (((cell_far (p := ⟨gb253, _, none⟩) NB237_253.out _).trans (((cell_far (p := ⟨gb253, _, none⟩) NB237_253.out _).trans (((cell_far (p := ⟨gb253, _, none⟩) NB237_253.out _).trans (hHeld.2.2.2.2.2.2.2.2.2.2.1)))))))), ((cell_far (p := ⟨gb253, _, none⟩) (by exact hF0_) _).trans (((cell_far (p := ⟨gb253, _, none⟩) (by exact hF0_) _).trans (((cell_far (p := ⟨gb253, _, none⟩) (by exact hF0_) _).trans (((cell_far (p := ⟨gb253, _, none⟩) (by exact hF0_) _).trans (hHeld.2.2.2.2.2.2.2.2.2.2.2.1)))))))), ((cell_far (p := ⟨gb253, _, none⟩) (by exact hF0_) _).trans (((cell_far (p := ⟨gb253, _, none⟩) (by exact hF0_) _).trans (((cell_far (p := ⟨gb253, _, none⟩) (by exact hF0_) _).trans (((cell_far (p := ⟨gb253, _, none⟩) (by exact hF0_) _).trans (hHeld.2.2.2.2.2.2.2.2.2.2.2.2.1)))))))), ((cell_far (p := ⟨gb253, _, none⟩) (by exact hF0_) _).trans (((cell_far (p := ⟨gb253, _, none⟩) (by exact hF0_) _).trans (((cell_far (p := ⟨gb253, _, none⟩) (by exact hF0_) _).trans (((cell_far (p := ⟨gb253, _, none⟩) (by exact hF0_) _).trans (hHeld.2.2.2.2.2.2.2.2.2.2.2.2.2.1)))))))), ((cell_far (p := ⟨gb253, _, none⟩) (by exact hF0_) _).trans (((cell_far (p := ⟨gb253, _, none⟩) (by exact hF0_) _).trans (((cell_far (p := ⟨gb253, _, none⟩) (by exact hF0_) _).trans (((cell_far (p := ⟨gb253, _, none⟩) (by exact hF0_) _).trans (hHeld.2.2.2.2.2.2.2.2.2.2.2.2.2.2))))))))⟩ (fun hHeld => ?_)
                 clear hK K
                 refine pure_ (i := 16) (N := some 17) (v := ?_) (a' := ?_) #[true, true, true, true, true, true, true, true, true, true, true, true, true, true, true, true, true] rfl rfl (any_of HT_.out (by kernel_rfl)) (fun _ _ _ h => h) (Or.inl ⟨by rfl, ?_⟩) ?_ ?_
                 rotate_left
                 ·
                  intro w'
                  go_simp
                  with_reducible rfl
                 rotate_left
                 ·
                  simp only [Act.put, List.setIfInBounds_toArray, List.set_cons_zero, List.set_cons_succ, i64_w, i32_w]
                  rfl
                 refine done_ (done_of HT_.out (by kernel_rfl)) ?_
                ·
                 have hnb87 := NB253_222.out
                 have hnc87 := NB222_253.out
                 have hnb88 := NB253_230.out
                 have hnc88 := NB230_253.out
                 have hnb89 := NB253_236.out
                 have hnc89 := NB236_253.out
                 have hnb90 := NB253_237.out
                 have hnc90 := NB237_253.out
                 have hcz91_0 : w62.cell? ⟨gb253, 0, none⟩ = some (.slice none 0 0) := (blk_cell BK253.out 0).trans rfl
                 have hcz91_1 : w62.cell? ⟨gb253, 1, none⟩ = some (.bool false) := (blk_cell BK253.out 1).trans rfl
                 have hcz91_2 : w62.cell? ⟨gb253, 2, none⟩ = some (.bool false) := (blk_cell BK253.out 2).trans rfl
                 have hcz91_3 : w62.cell? ⟨gb253, 3, none⟩ = some (.int .i64 0) := (blk_cell BK253.out 3).trans rfl
                 have hfz91_0 := blk_frozen BK253.out 0
                 have hfz91_1 := blk_frozen BK253.out 1
                 have hfz91_2 := blk_frozen BK253.out 2
                 have hfz91_3 := blk_frozen BK253.out 3
                 have hcz92_0 : w62.cell? ⟨gb230, 0, none⟩ = some (.slice (some ad245) t238.length co56) := (blk_cell BK230.out 0).trans rfl
                 have hcz92_1 : w62.cell? ⟨gb230, 1, none⟩ = some (.bool t241) := (blk_cell BK230.out 1).trans rfl
                 have hcz92_2 : w62.cell? ⟨gb230, 2, none⟩ = some (.bool t242) := (blk_cell BK230.out 2).trans rfl
                 have hcz92_3 : w62.cell? ⟨gb230, 3, none⟩ = some (.int .i64 t243) := (blk_cell BK230.out 3).trans rfl
                 have hfz92_0 := blk_frozen BK230.out 0
                 have hfz92_1 := blk_frozen BK230.out 1
                 have hfz92_2 := blk_frozen BK230.out 2
                 have hfz92_3 := blk_frozen BK230.out 3
                 try go_wp2
                 go_roundg kj21
                 case measure => have := HK1.out; have := HJ10.out; have := HJ21.out; omega
                 case rel => exact ⟨(ji68), (wrap64 (x10_1 + 1)), (t246), (t249), (t250), (t251), (.slice Ao63 t246.length co63), (by first | rfl | (simp; done) | (simp only [← hji68] <;> (first | rfl | simp)) | (simp [*]; done)), (by first | rfl | (simp; done) | (simp [*]; done)), H', ⟨by have := HK1.out; have := HJ10.out; have := HJ21.out; omega⟩, ⟨by (with_reducible repeat (first | apply vA | apply vN | apply vD)); exact Kd.V_mono (Kd.V_far (p := ⟨gb230, 3, none⟩) (Kd.V_far (p := ⟨gb230, 2, none⟩) (Kd.V_far (p := ⟨gb230, 1, none⟩) (Kd.V_far (p := ⟨gb230, 0, none⟩) (Kd.V_far (p := ⟨gb253, 3, none⟩) (Kd.V_far (p := ⟨gb253, 2, none⟩) (Kd.V_far (p := ⟨gb253, 1, none⟩) (Kd.V_far (p := ⟨gb253, 0, none⟩) (Kd.V_mono (Kd.V_mono HO248.out (fun k_ hk => (⟨hk, hk.2.2.2.2.2⟩ : _ ∧ k_ ≠ gb253))) (fun k_ hk => (⟨hk, hk.1.2.2.1⟩ : _ ∧ k_ ≠ gb230))) (fun _ hk => hk.1.2) (.slice Ao63 t246.length co63)) (fun _ hk => hk.1.2) (.bool t249)) (fun _ hk => hk.1.2) (.bool t250)) (fun _ hk => hk.1.2) (.int .i64 t251)) (fun _ hk => hk.2) _) (fun _ hk => hk.2) (.bool t249)) (fun _ hk => hk.2) (.bool t250)) (fun _ hk => hk.2) _) (fun _ hk => ⟨hk.1.1.1, ⟨hk.1.1.2.1, hk.1.1.2.2.1⟩⟩)⟩, ⟨by (with_reducible repeat (first | apply bN | apply bD | apply bA)); refine blk_far ?_ NB222_230.out _; (with_reducible repeat (first | apply bN | apply bD | apply bA)); refine blk_far ?_ NB222_230.out _; (with_reducible repeat (first | apply bN | apply bD | apply bA)); refine blk_far ?_ NB222_230.out _; (with_reducible repeat (first | apply bN | apply bD | apply bA)); refine blk_far ?_ NB222_230.out _; (with_reducible repeat (first | apply bN | apply bD | apply bA)); refine blk_far ?_ NB222_253.out _; (with_reducible repeat (first | apply bN | apply bD | apply bA)); refine blk_far ?_ NB222_253.out _; (with_reducible repeat (first | apply bN | apply bD | apply bA)); refine blk_far ?_ NB222_253.out _; (with_reducible repeat (first | apply bN | apply bD | apply bA)); refine blk_far ?_ NB222_253.out _; (with_reducible repeat (first | apply bN | apply bD | apply bA)); exact BK222.out⟩, ⟨by (with_reducible repeat (first | apply bN | apply bD | apply bA)); refine blk_put (cs := #[.slice Ao63 t246.length co63, .bool t249, .bool t250, .int .i64 t243]) ?_ 3 _ rfl; (with_reducible repeat (first | apply bN | apply bD | apply bA)); refine blk_put (cs := #[.slice Ao63 t246.length co63, .bool t249, .bool t242, .int .i64 t243]) ?_ 2 _ rfl; (with_reducible repeat (first | apply bN | apply bD | apply bA)); refine blk_put (cs := #[.slice Ao63 t246.length co63, .bool t241, .bool t242, .int .i64 t243]) ?_ 1 _ rfl; (with_reducible repeat (first | apply bN | apply bD | apply bA)); refine blk_put (cs := #[.slice (some ad245) t238.length co56, .bool t241, .bool t242, .int .i64 t243]) ?_ 0 _ rfl; (with_reducible repeat (first | apply bN | apply bD | apply bA)); refine blk_far ?_ NB230_253.out _; (with_reducible repeat (first | apply bN | apply bD | apply bA)); refine blk_far ?_ NB230_253.out _; (with_reducible repeat (first | apply bN | apply bD | apply bA)); refine blk_far ?_ NB230_253.out _; (with_reducible repeat (first | apply bN | apply bD | apply bA)); refine blk_far ?_ NB230_253.out _; (with_reducible repeat (first | apply bN | apply bD | apply bA)); exact BK230.out⟩, ⟨by repeat (first | (with_reducible first | exact HB.out | apply below_alloc | apply pw_below_drewN | apply below_drew1 | refine below_set ?_ GE222.out | refine below_set ?_ GE230.out | refine below_set ?_ GE236.out | refine below_set ?_ GE237.out | refine below_set ?_ GE253.out) | exact HB.out)⟩⟩
                ·
                 try go_wp2
                 go_roundg kj21
                 case measure => have := HK1.out; have := HJ10.out; have := HJ21.out; omega
                 case rel => exact ⟨(ji49), (wrap64 (x10_1 + 1)), (t238), (t241), (t242), (t243), (.slice (some ad245) t238.length co56), (by first | rfl | (simp; done) | (simp only [← hji49] <;> (first | rfl | simp)) | (simp [*]; done)), (by first | rfl | (simp; done) | (simp [*]; done)), H', ⟨by have := HK1.out; have := HJ10.out; have := HJ21.out; omega⟩, ⟨by (with_reducible repeat (first | apply vA | apply vN | apply vD)); exact Kd.V_mono (Kd.V_far (p := ⟨gb253, 3, none⟩) (Kd.V_far (p := ⟨gb253, 2, none⟩) (Kd.V_far (p := ⟨gb253, 1, none⟩) (Kd.V_far (p := ⟨gb253, 0, none⟩) (Kd.V_mono HO240.out (fun k_ hk => (⟨hk, hk.2.2.2.2.2⟩ : _ ∧ k_ ≠ gb253))) (fun _ hk => hk.2) _) (fun _ hk => hk.2) (.bool t249)) (fun _ hk => hk.2) (.bool t250)) (fun _ hk => hk.2) _) (fun _ hk => ⟨hk.1.1, ⟨hk.1.2.1, hk.1.2.2.1⟩⟩)⟩, ⟨by (with_reducible repeat (first | apply bN | apply bD | apply bA)); refine blk_far ?_ NB222_253.out _; (with_reducible repeat (first | apply bN | apply bD | apply bA)); refine blk_far ?_ NB222_253.out _; (with_reducible repeat (first | apply bN | apply bD | apply bA)); refine blk_far ?_ NB222_253.out _; (with_reducible repeat (first | apply bN | apply bD | apply bA)); refine blk_far ?_ NB222_253.out _; (with_reducible repeat (first | apply bN | apply bD | apply bA)); exact BK222.out⟩, ⟨by (with_reducible repeat (first | apply bN | apply bD | apply bA)); refine blk_far ?_ NB230_253.out _; (with_reducible repeat (first | apply bN | apply bD | apply bA)); refine blk_far ?_ NB230_253.out _; (with_reducible repeat (first | apply bN | apply bD | apply bA)); refine blk_far ?_ NB230_253.out _; (with_reducible repeat (first | apply bN | apply bD | apply bA)); refine blk_far ?_ NB230_253.out _; (with_reducible repeat (first | apply bN | apply bD | apply bA)); exact BK230.out⟩, ⟨by repeat (first | (with_reducible first | exact HB.out | apply below_alloc | apply pw_below_drewN | apply below_drew1 | refine below_set ?_ GE222.out | refine below_set ?_ GE230.out | refine below_set ?_ GE236.out | refine below_set ?_ GE237.out | refine below_set ?_ GE253.out) | exact HB.out)⟩⟩
               ·
                rw [if_neg c46] at H
                exact absurd H (by simp)
              ·
               rw [if_neg c45] at H
               exact absurd H (by simp)
             ·
              rw [if_neg c42] at H
              have c42b0 : ((Int.tmod (wrap64 (rd l0 x9_1)) 29) == 0) = false := beq_eq_false_iff_ne.mpr c42
              have c42b1 : ((Int.tmod (wrap64 (rd l0 x9_1)) 29) != 0) = true := bne_iff_ne.mpr c42
              obtain ⟨ji93, hji93⟩ : ∃ j_ : Int, (Int.tmod (wrap64 (rd l0 x9_1)) a1) = j_ := ⟨_, rfl⟩
              replace H : (if 0 ≤ (ji93) then (if (ji93) < (x231000_1.length : Int) then ((clinkerref05_Program.f x231000_1 x231001_1 x231002_1 x231003_1 (ji93) ((rd_T45 x231000_1 (ji93)).f1) t233 t234 t235 x238000_21 x238001_21 x238002_21 x238003_21).bind fun bt255 => (if bt255.2.2.2.2 = 1 then (clinkerlaw06_Made.l0 kj21 l0 a1 (mx ji17 (wrap64 (x9_1 + 1))) (wrap64 (x10_1 + 1)) x231000_1 x231001_1 x231002_1 x231003_1) else (clinkerlaw06_Made.l0 kj21 l0 a1 (mx ji17 (wrap64 (x9_1 + 1))) (wrap64 (x10_1 + 1)) bt255.1 bt255.2.1 bt255.2.2.1 bt255.2.2.2.1))) else (none)) else (none)) = some (r1, r2, r3, r4) := by first | (rw [hji93] at H; exact H) | (simp only [hji93] at H ⊢; exact H)
              by_cases c94 : 0 ≤ (ji93)
              ·
               rw [if_pos c94] at H
               have c94b0 : decide (0 ≤ (ji93)) = true := decide_eq_true c94
               clear c94
               by_cases c95 : (ji93) < (x231000_1.length : Int)
               ·
                rw [if_pos c95] at H
                have c95b0 : decide ((ji93) < (x231000_1.length : Int)) = true := decide_eq_true c95
                clear c95
                replace H := Option.bind_eq_some_iff.mp H
                obtain ⟨⟨t255, t258, t259, t260, t261⟩, A960, H⟩ := H
                replace H : (if t261 = 1 then (clinkerlaw06_Made.l0 kj21 l0 a1 (mx ji17 (wrap64 (x9_1 + 1))) (wrap64 (x10_1 + 1)) x231000_1 x231001_1 x231002_1 x231003_1) else (clinkerlaw06_Made.l0 kj21 l0 a1 (mx ji17 (wrap64 (x9_1 + 1))) (wrap64 (x10_1 + 1)) t255 t258 t259 t260)) = some (r1, r2, r3, r4) := H
                have A96 := Aside0.mk A960
                clear A960
                by_cases c97 : t261 = 1
                case' pos =>
                 rw [if_pos c97] at H
                 have c97b0 : (t261 == 1) = true := beq_iff_eq.mpr c97
                 have c97b1 : (t261 != 1) = false := bne_eq_false_iff_eq.mpr c97
                 clear c97
                 obtain ⟨ji98, hji98⟩ : ∃ j_ : Int, (mx ji17 (wrap64 (x9_1 + 1))) = j_ := ⟨_, rfl⟩
                 replace H : (clinkerlaw06_Made.l0 kj21 l0 a1 ji98 (wrap64 (x10_1 + 1)) x231000_1 x231001_1 x231002_1 x231003_1) = some (r1, r2, r3, r4) := by first | (rw [hji98] at H; exact H) | (simp only [hji98] at H ⊢; exact H)
                case' neg =>
                 rw [if_neg c97] at H
                 have c97b0 : (t261 == 1) = false := beq_eq_false_iff_ne.mpr c97
                 have c97b1 : (t261 != 1) = true := bne_iff_ne.mpr c97
                 obtain ⟨ji98, hji98⟩ : ∃ j_ : Int, (mx ji17 (wrap64 (x9_1 + 1))) = j_ := ⟨_, rfl⟩
                 replace H : (clinkerlaw06_Made.l0 kj21 l0 a1 ji98 (wrap64 (x10_1 + 1)) t255 t258 t259 t260) = some (r1, r2, r3, r4) := by first | (rw [hji98] at H; exact H) | (simp only [hji98] at H ⊢; exact H)
                all_goals
                 (try rw [hji98] at A96)
                 have hji98_ : (if ji17 < (wrap64 (x9_1 + 1)) then (wrap64 (x9_1 + 1)) else ji17) = ji98 := hji98
                 have H' := Aside0.mk H
                 clear H
                 obtain ⟨Ao99, co99, eo99⟩ := Kd.V_slice HO_231000.out
                 subst eo99
                 try go_wp2
                 have n0_ := Aside0.mk (Kd.V_drew HO_231000.out)
                 have n1_ := Aside0.mk (blk_drew BK222.out)
                 have n2_ := Aside0.mk (blk_drew BK230.out)
                 have n3_ := Aside0.mk (blk_drew BK236.out)
                 have n4_ := Aside0.mk (blk_drew BK237.out)
                 have n5_ := Aside0.mk (below_drew1 HB.out)
                 clear HO_231000
                 clear BK222
                 clear BK230
                 clear BK236
                 clear BK237
                 clear HB
                 have HO_231000 := n0_
                 have BK222 := n1_
                 have BK230 := n2_
                 have BK236 := n3_
                 have BK237 := n4_
                 have HB := n5_
                 clear n0_ n1_ n2_ n3_ n4_ n5_
                 have p254 : 0 ≤ ((ji93) : Int) := of_decide_eq_true (by first | (with_reducible assumption) | assumption)
                 have q254 : (ji93) < (x231000_1.length : Int) := of_decide_eq_true (by first | (with_reducible assumption) | assumption)
                 obtain ⟨ad254, A254_0, c254_0, e254, hx254_0, hx254_1, hx254_2, hx254_3, hl254_0, hi254_0⟩ := at_T45 (Kd.V_reads' HO_231000.out).2.2 (ji93) p254 q254
                 cases e254
                 obtain ⟨ce254, hce254, hMe254, hcc254⟩ := Kd.V_get HO_231000.out z45 (ji93) p254 (by first | exact q254 | exact of_decide_eq_true (by first | (with_reducible assumption) | assumption) | (have e_ := (Kd.V_reads' HO_231000.out).1; omega))
                 obtain ⟨ua254_0, uc254_0, rfl, ul254_0, ge254_0⟩ := k45_openF hMe254
                 have hv254_0 := hcc254 0 _ rfl
                 rw [Nat.add_zero] at hv254_0
                 replace hv254_0 := Option.some.inj (hv254_0.symm.trans hx254_0)
                 injection hv254_0 with hva_ hvn_ hvc_
                 rw [hva_] at ge254_0
                 rw [hvc_] at ul254_0
                 have HL254_0 := Aside0.mk (show Kd.V k42 42 _ w.heap.size _ _ ((rd_T45 x231000_1 (ji93)).f0) from Kd.V_mk ul254_0 ge254_0)
                 clear hva_ hvn_ hvc_ ge254_0 ul254_0
                 clear hcc254 hce254
                 have HR254_0 := Aside0.mk hi254_0
                 have HC254_0 := Aside0.mk hl254_0
                 clear hi254_0 hl254_0
                 replace p254 := eq_true p254
                 replace q254 := eq_true q254
                 refine start_ (n := 17) (S := fun w' => w'.cell? ⟨gb230, 0, none⟩ = some (.slice (some ad254) x231000_1.length co99) ∧ w'.cell? ⟨gb230, 1, none⟩ = some (.bool x231001_1) ∧ w'.cell? ⟨gb230, 2, none⟩ = some (.bool x231002_1) ∧ w'.cell? ⟨gb230, 3, none⟩ = some (.int .i64 x231003_1) ∧ w'.cell? ⟨gb236, 0, none⟩ = some (.bool t233) ∧ w'.cell? ⟨gb236, 1, none⟩ = some (.string t234) ∧ w'.cell? ⟨gb236, 2, none⟩ = some (.string t235) ∧ w'.cell? ⟨gb237, 0, none⟩ = some (.int .i64 x238000_21) ∧ w'.cell? ⟨gb237, 1, none⟩ = some (.string x238001_21) ∧ w'.cell? ⟨gb237, 2, none⟩ = some (.string x238002_21) ∧ w'.cell? ⟨gb237, 3, none⟩ = some (.int .i64 x238003_21) ∧ w'.cell? (ad254.add (((ji93)).toNat * 4)) = some (.slice A254_0 ((rd_T45 x231000_1 (ji93)).f0).length c254_0) ∧ w'.cell? ⟨(ad254.add (((ji93)).toNat * 4)).block, (ad254.add (((ji93)).toNat * 4)).off + 1, none⟩ = some (.int .i64 ((rd_T45 x231000_1 (ji93)).f1)) ∧ w'.cell? ⟨(ad254.add (((ji93)).toNat * 4)).block, (ad254.add (((ji93)).toNat * 4)).off + 2, none⟩ = some (.int .i64 ((rd_T45 x231000_1 (ji93)).f2)) ∧ w'.cell? ⟨(ad254.add (((ji93)).toNat * 4)).block, (ad254.add (((ji93)).toNat * 4)).off + 3, none⟩ = some (.bool ((rd_T45 x231000_1 (ji93)).f3))) (ds := []) #[false, false, false, false, false, false, false, false, false, false, false, false, false, false, false, false, false] (by kernel_rfl) rfl rfl ⟨(blk_cell BK230.out 0).trans rfl, (blk_cell BK230.out 1).trans rfl, (blk_cell BK230.out 2).trans rfl, (blk_cell BK230.out 3).trans rfl, (blk_cell BK236.out 0).trans rfl, (blk_cell BK236.out 1).trans rfl, (blk_cell BK236.out 2).trans rfl, (blk_cell BK237.out 0).trans rfl, (blk_cell BK237.out 1).trans rfl, (blk_cell BK237.out 2).trans rfl, (blk_cell BK237.out 3).trans rfl, hx254_0, hx254_1, hx254_2, hx254_3⟩ (fun hHeld => ?_); refine with_tabW clinkerlaw06_Made.tab15 clinkerlaw06_Made.bits15 (fun HT_ HW_ => ?_)
                 generalize wc.drew = w100 at HO_231000 BK222 BK230 BK236 BK237 HB HL254_0 HR254_0 hx254_0 hx254_1 hx254_2 hx254_3 hHeld ⊢
                 refine pure_ (i := 1) (N := some 78) (v := ?_) (a' := ?_) #[false, true, false, false, false, false, false, false, false, false, false, false, false, false, false, false, false] rfl rfl (any_of HT_.out (by kernel_rfl)) (fun _ _ _ h => h) (Or.inl ⟨by rfl, ?_⟩) ?_ ?_
                 rotate_left
                 ·
                  intro w'
                  go_simp
                  with_reducible rfl
                 rotate_left
                 ·
                  simp only [Act.put, List.setIfInBounds_toArray, List.set_cons_zero, List.set_cons_succ, i64_w, i32_w]
                  rfl
                 refine pure_ (i := 2) (N := some 79) (v := ?_) (a' := ?_) #[false, true, true, false, false, false, false, false, false, false, false, false, false, false, false, false, false] rfl rfl (any_of HT_.out (by kernel_rfl)) (fun _ _ _ h => h) (Or.inl ⟨by rfl, ?_⟩) ?_ ?_
                 rotate_left
                 ·
                  intro w'
                  go_simp
                  with_reducible rfl
                 rotate_left
                 ·
                  simp only [Act.put, List.setIfInBounds_toArray, List.set_cons_zero, List.set_cons_succ, i64_w, i32_w]
                  rfl
                 refine pure_ (i := 4) (N := some 81) (v := ?_) (a' := ?_) #[false, true, true, false, true, false, false, false, false, false, false, false, false, false, false, false, false] rfl rfl (any_of HT_.out (by kernel_rfl)) (fun _ _ _ h => h) (Or.inl ⟨by rfl, ?_⟩) ?_ ?_
                 rotate_left
                 ·
                  intro w'
                  go_simp
                  with_reducible rfl
                 rotate_left
                 ·
                  simp only [Act.put, List.setIfInBounds_toArray, List.set_cons_zero, List.set_cons_succ, i64_w, i32_w]
                  rfl
                 refine take_ (i := 0) (N := some 77) (v := ?_) (a' := ?_) #[true, true, true, false, true, false, false, false, false, false, false, false, false, false, false, false, false] rfl rfl (take_ofW HT_.out HW_.out (by kernel_rfl)) (fun _ _ _ h => h) (Or.inl ⟨by rfl, ?_⟩) hHeld ?_ ?_
                 rotate_left
                 ·
                  rintro w' ⟨s0, s1, s2, s3, s4, s5, s6, s7, s8, s9, s10, s11, s12, s13, s14⟩
                  go_simp
                  with_reducible rfl
                 rotate_left
                 ·
                  simp only [Act.put, List.setIfInBounds_toArray, List.set_cons_zero, List.set_cons_succ, i64_w, i32_w]
                  rfl
                 refine take_ (i := 3) (N := some 80) (v := ?_) (a' := ?_) #[true, true, true, true, true, false, false, false, false, false, false, false, false, false, false, false, false] rfl rfl (take_ofW HT_.out HW_.out (by kernel_rfl)) (fun _ _ _ h => h) (Or.inl ⟨by rfl, ?_⟩) hHeld ?_ ?_
                 rotate_left
                 ·
                  rintro w' ⟨s0, s1, s2, s3, s4, s5, s6, s7, s8, s9, s10, s11, s12, s13, s14⟩
                  go_simp
                  with_reducible rfl
                 rotate_left
                 ·
                  simp only [Act.put, List.setIfInBounds_toArray, List.set_cons_zero, List.set_cons_succ, i64_w, i32_w]
                  rfl
                 refine pure_ (i := 5) (N := some 82) (v := ?_) (a' := ?_) #[true, true, true, true, true, true, false, false, false, false, false, false, false, false, false, false, false] rfl rfl (any_of HT_.out (by kernel_rfl)) (fun _ _ _ h => h) (Or.inl ⟨by rfl, ?_⟩) ?_ ?_
                 rotate_left
                 ·
                  intro w'
                  go_simp
                  with_reducible rfl
                 rotate_left
                 ·
                  simp only [Act.put, List.setIfInBounds_toArray, List.set_cons_zero, List.set_cons_succ, i64_w, i32_w]
                  rfl
                 refine pure_ (i := 6) (N := some 83) (v := ?_) (a' := ?_) #[true, true, true, true, true, true, true, false, false, false, false, false, false, false, false, false, false] rfl rfl (any_of HT_.out (by kernel_rfl)) (fun _ _ _ h => h) (Or.inl ⟨by rfl, ?_⟩) ?_ ?_
                 rotate_left
                 ·
                  intro w'
                  go_simp
                  with_reducible rfl
                 rotate_left
                 ·
                  simp only [Act.put, List.setIfInBounds_toArray, List.set_cons_zero, List.set_cons_succ, i64_w, i32_w]
                  rfl
                 refine take_ (i := 7) (N := some 84) (v := ?_) (a' := ?_) #[true, true, true, true, true, true, true, true, false, false, false, false, false, false, false, false, false] rfl rfl (take_ofW HT_.out HW_.out (by kernel_rfl)) (fun _ _ _ h => h) (Or.inl ⟨by rfl, ?_⟩) hHeld ?_ ?_
                 rotate_left
                 ·
                  rintro w' ⟨s0, s1, s2, s3, s4, s5, s6, s7, s8, s9, s10, s11, s12, s13, s14⟩
                  go_simp
                  with_reducible rfl
                 rotate_left
                 ·
                  simp only [Act.put, List.setIfInBounds_toArray, List.set_cons_zero, List.set_cons_succ, i64_w, i32_w]
                  rfl
                 refine take_ (i := 8) (N := some 85) (v := ?_) (a' := ?_) #[true, true, true, true, true, true, true, true, true, false, false, false, false, false, false, false, false] rfl rfl (take_ofW HT_.out HW_.out (by kernel_rfl)) (fun _ _ _ h => h) (Or.inl ⟨by rfl, ?_⟩) hHeld ?_ ?_
                 rotate_left
                 ·
                  rintro w' ⟨s0, s1, s2, s3, s4, s5, s6, s7, s8, s9, s10, s11, s12, s13, s14⟩
                  go_simp
                  with_reducible rfl
                 rotate_left
                 ·
                  simp only [Act.put, List.setIfInBounds_toArray, List.set_cons_zero, List.set_cons_succ, i64_w, i32_w]
                  rfl
                 refine take_ (i := 9) (N := some 86) (v := ?_) (a' := ?_) #[true, true, true, true, true, true, true, true, true, true, false, false, false, false, false, false, false] rfl rfl (take_ofW HT_.out HW_.out (by kernel_rfl)) (fun _ _ _ h => h) (Or.inl ⟨by rfl, ?_⟩) hHeld ?_ ?_
                 rotate_left
                 ·
                  rintro w' ⟨s0, s1, s2, s3, s4, s5, s6, s7, s8, s9, s10, s11, s12, s13, s14⟩
                  go_simp
                  with_reducible rfl
                 rotate_left
                 ·
                  simp only [Act.put, List.setIfInBounds_toArray, List.set_cons_zero, List.set_cons_succ, i64_w, i32_w]
                  rfl
                 refine join_ (σ := Value × Nat) 2 #[true, true, true, true, true, true, true, true, true, true, true, true, true, true, true, false, false] (fun s_ => [(87, .tuple #[.agg #[s_.1, .bool t258, .bool t259, .int .i64 t260], .int .i64 t261]), (16, .pointer (some ⟨s_.2, 0, none⟩)), (76, .tuple #[.agg #[s_.1, .bool t258, .bool t259, .int .i64 t260], .int .i64 t261]), (88, .agg #[s_.1, .bool t258, .bool t259, .int .i64 t260]), (89, .int .i64 t261)]) (fun s_ w' => (w'.cell? ⟨gb230, 0, none⟩ = some (.slice (some ad254) x231000_1.length co99) ∧ w'.cell? ⟨gb230, 1, none⟩ = some (.bool x231001_1) ∧ w'.cell? ⟨gb230, 2, none⟩ = some (.bool x231002_1) ∧ w'.cell? ⟨gb230, 3, none⟩ = some (.int .i64 x231003_1) ∧ w'.cell? ⟨gb236, 0, none⟩ = some (.bool t233) ∧ w'.cell? ⟨gb236, 1, none⟩ = some (.string t234) ∧ w'.cell? ⟨gb236, 2, none⟩ = some (.string t235) ∧ w'.cell? ⟨gb237, 0, none⟩ = some (.int .i64 x238000_21) ∧ w'.cell? ⟨gb237, 1, none⟩ = some (.string x238001_21) ∧ w'.cell? ⟨gb237, 2, none⟩ = some (.string x238002_21) ∧ w'.cell? ⟨gb237, 3, none⟩ = some (.int .i64 x238003_21) ∧ w'.cell? (ad254.add (((ji93)).toNat * 4)) = some (.slice A254_0 ((rd_T45 x231000_1 (ji93)).f0).length c254_0) ∧ w'.cell? ⟨(ad254.add (((ji93)).toNat * 4)).block, (ad254.add (((ji93)).toNat * 4)).off + 1, none⟩ = some (.int .i64 ((rd_T45 x231000_1 (ji93)).f1)) ∧ w'.cell? ⟨(ad254.add (((ji93)).toNat * 4)).block, (ad254.add (((ji93)).toNat * 4)).off + 2, none⟩ = some (.int .i64 ((rd_T45 x231000_1 (ji93)).f2)) ∧ w'.cell? ⟨(ad254.add (((ji93)).toNat * 4)).block, (ad254.add (((ji93)).toNat * 4)).off + 3, none⟩ = some (.bool ((rd_T45 x231000_1 (ji93)).f3))) ∧ (Kd.V k42 42 w' w.heap.size (fun k_ => (w.heap.size ≤ k_) ∧ k_ ≠ gb222 ∧ k_ ≠ gb230 ∧ k_ ≠ gb236 ∧ k_ ≠ gb237 ∧ k_ ≠ s_.2) (.slice A254_0 ((rd_T45 x231000_1 (ji93)).f0).length c254_0) ((rd_T45 x231000_1 (ji93)).f0)) ∧ (Kd.V k45 45 w' w.heap.size (fun k_ => (w.heap.size ≤ k_) ∧ k_ ≠ gb222 ∧ k_ ≠ gb230 ∧ k_ ≠ gb236 ∧ k_ ≠ gb237 ∧ k_ ≠ s_.2) s_.1 t255) ∧ (Kd.V k45 45 w' w.heap.size (fun k_ => (w.heap.size ≤ k_) ∧ k_ ≠ gb222 ∧ k_ ≠ gb230 ∧ k_ ≠ gb236 ∧ k_ ≠ gb237 ∧ k_ ≠ s_.2) (.slice (some ad254) x231000_1.length co99) x231000_1) ∧ (w'.heap[gb222]? = some (.cells #[.slice none 0 0, .bool false, .bool false, .int .i64 0] 26 (0, 0))) ∧ (w'.heap[gb230]? = some (.cells #[.slice (some ad254) x231000_1.length co99, .bool x231001_1, .bool x231002_1, .int .i64 x231003_1] 26 (0, 0))) ∧ (w'.heap[gb236]? = some (.cells #[.bool t233, .string t234, .string t235] 42 (0, 0))) ∧ (w'.heap[gb237]? = some (.cells #[.int .i64 x238000_21, .string x238001_21, .string x238002_21, .int .i64 x238003_21] 33 (0, 0))) ∧ (w'.heap[s_.2]? = some (.cells #[.slice none 0 0, .bool false, .bool false, .int .i64 0] 26 (0, 0))) ∧ (w.heap.size ≤ s_.2) ∧ (w.heap.size ≤ s_.2) ∧ (gb222 ≠ s_.2) ∧ (s_.2 ≠ gb222) ∧ (gb230 ≠ s_.2) ∧ (s_.2 ≠ gb230) ∧ (gb236 ≠ s_.2) ∧ (s_.2 ≠ gb236) ∧ (gb237 ≠ s_.2) ∧ (s_.2 ≠ gb237) ∧ (Below w.heap.size w w')) ?_ ?_
                 rotate_left
                 ·
                  intro hCont
                  refine two_ (i := 10) (j := 14) (Ni := some 87) (Nj := some 16) #[true, true, true, true, true, true, true, true, true, true, true, false, false, false, false, false, false] #[true, true, true, true, true, true, true, true, true, true, false, false, false, false, true, false, false] rfl rfl rfl rfl (two_of HT_.out (by kernel_rfl)) (by decide) (by decide) (fun K hK => ?_) (fun K hK => ?_)
                  ·
                   skip
                   refine goes_ Try.func13 (by kernel_rfl) rfl #[.agg #[.slice (some ad254) x231000_1.length co99, .bool x231001_1, .bool x231002_1, .int .i64 x231003_1], .int .i64 (ji93), .int .i64 ((rd_T45 x231000_1 (ji93)).f1), .agg #[.bool t233, .string t234, .string t235], .agg #[.int .i64 x238000_21, .string x238001_21, .string x238002_21, .int .i64 x238003_21]] (by rfl) rfl rfl (by (try simp only [List.map_toArray, List.map_cons, List.map_nil]); first | done | (simp only [hji93]; rfl) | rfl | (simp only [List.length_drop, List.length_take]; rfl)) ?_
                   with_reducible refine (clinkerref05_Program.calls _ _ x231000_1 x231001_1 x231002_1 x231003_1 (ji93) ((rd_T45 x231000_1 (ji93)).f1) t233 t234 t235 x238000_21 x238001_21 x238002_21 x238003_21 t255 t258 t259 t260 t261 _ ?side1 ?side2 A96.out).mono ?_
                   (case side1 => repeat (first | exact (Kd.V_reads' HO_231000.out).2.2 | (with_reducible refine Kd.C_alloc ?_ _) | (with_reducible refine Kd.C_drewN ?_ _) | (with_reducible refine Kd.C_drew ?_)))
                   (case side2 => exact (Kd.V_reads' HO_231000.out).2.1)
                   rintro e w101 ⟨v256, rfl, ho0, hb⟩
                   have HS11_ := (hb.cell (World.block_lt_of_cell? _ _ (hHeld.2.2.2.2.2.2.2.2.2.2.2.1))).trans (hHeld.2.2.2.2.2.2.2.2.2.2.2.1)
                   have HS12_ := (hb.cell (World.block_lt_of_cell? _ _ (hHeld.2.2.2.2.2.2.2.2.2.2.2.2.1))).trans (hHeld.2.2.2.2.2.2.2.2.2.2.2.2.1)
                   have HS13_ := (hb.cell (World.block_lt_of_cell? _ _ (hHeld.2.2.2.2.2.2.2.2.2.2.2.2.2.1))).trans (hHeld.2.2.2.2.2.2.2.2.2.2.2.2.2.1)
                   have HS14_ := (hb.cell (World.block_lt_of_cell? _ _ (hHeld.2.2.2.2.2.2.2.2.2.2.2.2.2.2))).trans (hHeld.2.2.2.2.2.2.2.2.2.2.2.2.2.2)
                   refine ⟨_, rfl, ?_⟩
                   have n0_ := Aside0.mk (Kd.V_below (by (with_reducible repeat (first | apply vA | apply vN | apply vD)); exact HO_231000.out) hb)
                   have n1_ := Aside0.mk (Kd.V_below (by (with_reducible repeat (first | apply vA | apply vN | apply vD)); exact HL254_0.out) hb)
                   have n2_ := Aside0.mk (Kd.V_lower (Kd.V_mono (ok' := fun k_ => (w.heap.size ≤ k_) ∧ k_ ≠ gb222 ∧ k_ ≠ gb230 ∧ k_ ≠ gb236 ∧ k_ ≠ gb237) ho0 (fun k_ hk_ => ⟨(Nat.le_trans (below_size (by repeat (first | (with_reducible first | exact HB.out | apply below_alloc | apply pw_below_drewN | apply below_drew1 | refine below_set ?_ GE222.out | refine below_set ?_ GE230.out | refine below_set ?_ GE236.out | refine below_set ?_ GE237.out) | exact HB.out))) hk_), (Kd.freshB (g := gb222) (o := .cells #[.slice none 0 0, .bool false, .bool false, .int .i64 0] 26 (0, 0)) (by (with_reducible repeat (first | apply bN | apply bD | apply bA)); exact BK222.out) k_ hk_), (Kd.freshB (g := gb230) (o := .cells #[.slice (some ad254) x231000_1.length co99, .bool x231001_1, .bool x231002_1, .int .i64 x231003_1] 26 (0, 0)) (by (with_reducible repeat (first | apply bN | apply bD | apply bA)); exact BK230.out) k_ hk_), (Kd.freshB (g := gb236) (o := .cells #[.bool t233, .string t234, .string t235] 42 (0, 0)) (by (with_reducible repeat (first | apply bN | apply bD | apply bA)); exact BK236.out) k_ hk_), (Kd.freshB (g := gb237) (o := .cells #[.int .i64 x238000_21, .string x238001_21, .string x238002_21, .int .i64 x238003_21] 33 (0, 0)) (by (with_reducible repeat (first | apply bN | apply bD | apply bA)); exact BK237.out) k_ hk_)⟩)) (below_size (by repeat (first | (with_reducible first | exact HB.out | apply below_alloc | apply pw_below_drewN | apply below_drew1 | refine below_set ?_ GE222.out | refine below_set ?_ GE230.out | refine below_set ?_ GE236.out | refine below_set ?_ GE237.out) | exact HB.out))))
                   have n3_ := Aside0.mk (blk_below (g := gb222) (o := .cells #[.slice none 0 0, .bool false, .bool false, .int .i64 0] 26 (0, 0)) (by (with_reducible repeat (first | apply bN | apply bD | apply bA)); exact BK222.out) hb)
                   have n4_ := Aside0.mk (blk_below (g := gb230) (o := .cells #[.slice (some ad254) x231000_1.length co99, .bool x231001_1, .bool x231002_1, .int .i64 x231003_1] 26 (0, 0)) (by (with_reducible repeat (first | apply bN | apply bD | apply bA)); exact BK230.out) hb)
                   have n5_ := Aside0.mk (blk_below (g := gb236) (o := .cells #[.bool t233, .string t234, .string t235] 42 (0, 0)) (by (with_reducible repeat (first | apply bN | apply bD | apply bA)); exact BK236.out) hb)
                   have n6_ := Aside0.mk (blk_below (g := gb237) (o := .cells #[.int .i64 x238000_21, .string x238001_21, .string x238002_21, .int .i64 x238003_21] 33 (0, 0)) (by (with_reducible repeat (first | apply bN | apply bD | apply bA)); exact BK237.out) hb)
                   have n7_ := Aside0.mk (Kd.C_below (by repeat (first | (with_reducible exact HR254_0.out) | (with_reducible refine Kd.C_alloc ?_ _) | (with_reducible refine Kd.C_drewN ?_ _) | (with_reducible refine Kd.C_drew ?_) | exact HR254_0.out)) hb)
                   have n8_ := Aside0.mk (below_step (by repeat (first | (with_reducible first | exact HB.out | apply below_alloc | apply pw_below_drewN | apply below_drew1 | refine below_set ?_ GE222.out | refine below_set ?_ GE230.out | refine below_set ?_ GE236.out | refine below_set ?_ GE237.out) | exact HB.out)) hb)
                   clear HO_231000
                   clear HL254_0
                   clear BK222
                   clear BK230
                   clear BK236
                   clear BK237
                   clear HR254_0
                   clear HB
                   have HO_231000 := n0_
                   have HL254_0 := n1_
                   have HO257 := n2_
                   have BK222 := n3_
                   have BK230 := n4_
                   have BK236 := n5_
                   have BK237 := n6_
                   have HR254_0 := n7_
                   have HB := n8_
                   clear n0_ n1_ n2_ n3_ n4_ n5_ n6_ n7_ n8_
                   (try clear hb)
                   (try clear hb2)
                   (try clear hk)
                   (try clear hi)
                   (try clear ho0)
                   refine hK.out _ _ ⟨(blk_cell BK230.out 0).trans rfl, (blk_cell BK230.out 1).trans rfl, (blk_cell BK230.out 2).trans rfl, (blk_cell BK230.out 3).trans rfl, (blk_cell BK236.out 0).trans rfl, (blk_cell BK236.out 1).trans rfl, (blk_cell BK236.out 2).trans rfl, (blk_cell BK237.out 0).trans rfl, (blk_cell BK237.out 1).trans rfl, (blk_cell BK237.out 2).trans rfl, (blk_cell BK237.out 3).trans rfl, HS11_, HS12_, HS13_, HS14_⟩ (fun hHeld => ?_)
                   clear hK K
                   refine norm_ (a' := ?_) ?_ ?_
                   rotate_left
                   ·
                    show Act.put _ (some 87) _ = _
                    simp only [Act.put, List.setIfInBounds_toArray, List.set_cons_zero, List.set_cons_succ, i64_w, i32_w]
                    rfl
                   refine pure_ (i := 11) (N := some 76) (v := ?_) (a' := ?_) #[true, true, true, true, true, true, true, true, true, true, true, true, false, false, false, false, false] rfl rfl (any_of HT_.out (by kernel_rfl)) (fun _ _ _ h => h) (Or.inl ⟨by rfl, ?_⟩) ?_ ?_
                   rotate_left
                   ·
                    intro w'
                    go_simp
                    with_reducible rfl
                   rotate_left
                   ·
                    simp only [Act.put, List.setIfInBounds_toArray, List.set_cons_zero, List.set_cons_succ, i64_w, i32_w]
                    rfl
                   refine pure_ (i := 12) (N := some 88) (v := ?_) (a' := ?_) #[true, true, true, true, true, true, true, true, true, true, true, true, true, false, false, false, false] rfl rfl (any_of HT_.out (by kernel_rfl)) (fun _ _ _ h => h) (Or.inl ⟨by rfl, ?_⟩) ?_ ?_
                   rotate_left
                   ·
                    intro w'
                    go_simp
                    with_reducible rfl
                   rotate_left
                   ·
                    simp only [Act.put, List.setIfInBounds_toArray, List.set_cons_zero, List.set_cons_succ, i64_w, i32_w]
                    rfl
                   refine pure_ (i := 13) (N := some 89) (v := ?_) (a' := ?_) #[true, true, true, true, true, true, true, true, true, true, true, true, true, true, false, false, false] rfl rfl (any_of HT_.out (by kernel_rfl)) (fun _ _ _ h => h) (Or.inl ⟨by rfl, ?_⟩) ?_ ?_
                   rotate_left
                   ·
                    intro w'
                    go_simp
                    with_reducible rfl
                   rotate_left
                   ·
                    simp only [Act.put, List.setIfInBounds_toArray, List.set_cons_zero, List.set_cons_succ, i64_w, i32_w]
                    rfl
                   refine one_ (i := 14) (N := some 16) #[true, true, true, true, true, true, true, true, true, true, true, true, true, true, true, false, false] rfl rfl (one_of HT_.out (by kernel_rfl)) (by decide) (fun K hK => ?_)
                   refine box_step ?hg (N := 16) ?hd (cs := #[.slice none 0 0, .bool false, .bool false, .int .i64 0]) (t := 26) ?hr ?_; (case hd => rfl); (case hg => rfl); (case hr => first | (go_simp; done) | (go_simp; rfl))
                   intro gb262 hg w102 hbox hb
                   have HS11_ := (hb.cell (World.block_lt_of_cell? _ _ (hHeld.2.2.2.2.2.2.2.2.2.2.2.1))).trans (hHeld.2.2.2.2.2.2.2.2.2.2.2.1)
                   have HS12_ := (hb.cell (World.block_lt_of_cell? _ _ (hHeld.2.2.2.2.2.2.2.2.2.2.2.2.1))).trans (hHeld.2.2.2.2.2.2.2.2.2.2.2.2.1)
                   have HS13_ := (hb.cell (World.block_lt_of_cell? _ _ (hHeld.2.2.2.2.2.2.2.2.2.2.2.2.2.1))).trans (hHeld.2.2.2.2.2.2.2.2.2.2.2.2.2.1)
                   have HS14_ := (hb.cell (World.block_lt_of_cell? _ _ (hHeld.2.2.2.2.2.2.2.2.2.2.2.2.2.2))).trans (hHeld.2.2.2.2.2.2.2.2.2.2.2.2.2.2)
                   have n0_ := Aside0.mk (Kd.V_below (Kd.V_elderB (by (with_reducible repeat (first | apply vA | apply vN | apply vD)); exact HO_231000.out) gb262 (Nat.le_of_eq hg.symm)) hb)
                   have n1_ := Aside0.mk (Kd.V_below (Kd.V_elderB (by (with_reducible repeat (first | apply vA | apply vN | apply vD)); exact HL254_0.out) gb262 (Nat.le_of_eq hg.symm)) hb)
                   have n2_ := Aside0.mk (Kd.V_below (Kd.V_elderB (by (with_reducible repeat (first | apply vA | apply vN | apply vD)); exact HO257.out) gb262 (Nat.le_of_eq hg.symm)) hb)
                   have n3_ := Aside0.mk (blk_below (g := gb222) (o := .cells #[.slice none 0 0, .bool false, .bool false, .int .i64 0] 26 (0, 0)) (by (with_reducible repeat (first | apply bN | apply bD | apply bA)); exact BK222.out) hb)
                   have n4_ := Aside0.mk (blk_below (g := gb230) (o := .cells #[.slice (some ad254) x231000_1.length co99, .bool x231001_1, .bool x231002_1, .int .i64 x231003_1] 26 (0, 0)) (by (with_reducible repeat (first | apply bN | apply bD | apply bA)); exact BK230.out) hb)
                   have n5_ := Aside0.mk (blk_below (g := gb236) (o := .cells #[.bool t233, .string t234, .string t235] 42 (0, 0)) (by (with_reducible repeat (first | apply bN | apply bD | apply bA)); exact BK236.out) hb)
                   have n6_ := Aside0.mk (blk_below (g := gb237) (o := .cells #[.int .i64 x238000_21, .string x238001_21, .string x238002_21, .int .i64 x238003_21] 33 (0, 0)) (by (with_reducible repeat (first | apply bN | apply bD | apply bA)); exact BK237.out) hb)
                   have n7_ := Aside0.mk (Kd.C_below (by repeat (first | (with_reducible exact HR254_0.out) | (with_reducible refine Kd.C_alloc ?_ _) | (with_reducible refine Kd.C_drewN ?_ _) | (with_reducible refine Kd.C_drew ?_) | exact HR254_0.out)) hb)
                   have n8_ := Aside0.mk (below_step (by repeat (first | (with_reducible first | exact HB.out | apply below_alloc | apply pw_below_drewN | apply below_drew1 | refine below_set ?_ GE222.out | refine below_set ?_ GE230.out | refine below_set ?_ GE236.out | refine below_set ?_ GE237.out) | exact HB.out)) hb)
                   have n9_ := Aside0.mk (hbox)
                   have n10_ := Aside0.mk ((by rw [hg]; exact (below_size (by repeat (first | (with_reducible first | exact HB.out | apply below_alloc | apply pw_below_drewN | apply below_drew1 | refine below_set ?_ GE222.out | refine below_set ?_ GE230.out | refine below_set ?_ GE236.out | refine below_set ?_ GE237.out) | exact HB.out))) : w.heap.size ≤ gb262))
                   have n11_ := Aside0.mk ((by rw [hg]; exact (below_size (by repeat (first | (with_reducible first | exact HB.out | apply below_alloc | apply pw_below_drewN | apply below_drew1 | refine below_set ?_ GE222.out | refine below_set ?_ GE230.out | refine below_set ?_ GE236.out | refine below_set ?_ GE237.out) | exact HB.out))) : w.heap.size ≤ gb262))
                   have n12_ := Aside0.mk ((by rw [hg]; exact Nat.ne_of_lt (blk_lt (g := gb222) (o := .cells #[.slice none 0 0, .bool false, .bool false, .int .i64 0] 26 (0, 0)) (by (with_reducible repeat (first | apply bN | apply bD | apply bA)); exact BK222.out)) : gb222 ≠ gb262))
                   have n13_ := Aside0.mk ((by rw [hg]; exact Nat.ne_of_gt (blk_lt (g := gb222) (o := .cells #[.slice none 0 0, .bool false, .bool false, .int .i64 0] 26 (0, 0)) (by (with_reducible repeat (first | apply bN | apply bD | apply bA)); exact BK222.out)) : gb262 ≠ gb222))
                   have n14_ := Aside0.mk ((by rw [hg]; exact Nat.ne_of_lt (blk_lt (g := gb230) (o := .cells #[.slice (some ad254) x231000_1.length co99, .bool x231001_1, .bool x231002_1, .int .i64 x231003_1] 26 (0, 0)) (by (with_reducible repeat (first | apply bN | apply bD | apply bA)); exact BK230.out)) : gb230 ≠ gb262))
                   have n15_ := Aside0.mk ((by rw [hg]; exact Nat.ne_of_gt (blk_lt (g := gb230) (o := .cells #[.slice (some ad254) x231000_1.length co99, .bool x231001_1, .bool x231002_1, .int .i64 x231003_1] 26 (0, 0)) (by (with_reducible repeat (first | apply bN | apply bD | apply bA)); exact BK230.out)) : gb262 ≠ gb230))
                   have n16_ := Aside0.mk ((by rw [hg]; exact Nat.ne_of_lt (blk_lt (g := gb236) (o := .cells #[.bool t233, .string t234, .string t235] 42 (0, 0)) (by (with_reducible repeat (first | apply bN | apply bD | apply bA)); exact BK236.out)) : gb236 ≠ gb262))
                   have n17_ := Aside0.mk ((by rw [hg]; exact Nat.ne_of_gt (blk_lt (g := gb236) (o := .cells #[.bool t233, .string t234, .string t235] 42 (0, 0)) (by (with_reducible repeat (first | apply bN | apply bD | apply bA)); exact BK236.out)) : gb262 ≠ gb236))
                   have n18_ := Aside0.mk ((by rw [hg]; exact Nat.ne_of_lt (blk_lt (g := gb237) (o := .cells #[.int .i64 x238000_21, .string x238001_21, .string x238002_21, .int .i64 x238003_21] 33 (0, 0)) (by (with_reducible repeat (first | apply bN | apply bD | apply bA)); exact BK237.out)) : gb237 ≠ gb262))
                   have n19_ := Aside0.mk ((by rw [hg]; exact Nat.ne_of_gt (blk_lt (g := gb237) (o := .cells #[.int .i64 x238000_21, .string x238001_21, .string x238002_21, .int .i64 x238003_21] 33 (0, 0)) (by (with_reducible repeat (first | apply bN | apply bD | apply bA)); exact BK237.out)) : gb262 ≠ gb237))
                   clear HO_231000
                   clear HL254_0
                   clear HO257
                   clear BK222
                   clear BK230
                   clear BK236
                   clear BK237
                   clear HR254_0
                   clear HB
                   have HO_231000 := n0_
                   have HL254_0 := n1_
                   have HO257 := n2_
                   have BK222 := n3_
                   have BK230 := n4_
                   have BK236 := n5_
                   have BK237 := n6_
                   have HR254_0 := n7_
                   have HB := n8_
                   have BK262 := n9_
                   have GW262 := n10_
                   have GE262 := n11_
                   have NB222_262 := n12_
                   have NB262_222 := n13_
                   have NB230_262 := n14_
                   have NB262_230 := n15_
                   have NB236_262 := n16_
                   have NB262_236 := n17_
                   have NB237_262 := n18_
                   have NB262_237 := n19_
                   clear n0_ n1_ n2_ n3_ n4_ n5_ n6_ n7_ n8_ n9_ n10_ n11_ n12_ n13_ n14_ n15_ n16_ n17_ n18_ n19_
                   clear hb hbox hg
                   refine hK.out _ _ ⟨(blk_cell BK230.out 0).trans rfl, (blk_cell BK230.out 1).trans rfl, (blk_cell BK230.out 2).trans rfl, (blk_cell BK230.out 3).trans rfl, (blk_cell BK236.out 0).trans rfl, (blk_cell BK236.out 1).trans rfl, (blk_cell BK236.out 2).trans rfl, (blk_cell BK237.out 0).trans rfl, (blk_cell BK237.out 1).trans rfl, (blk_cell BK237.out 2).trans rfl, (blk_cell BK237.out 3).trans rfl, HS11_, HS12_, HS13_, HS14_⟩ (fun hHeld => ?_)
                   clear hK K
                   refine norm_ (a' := ?_) ?_ ?_
                   rotate_left
                   ·
                    show Act.put _ (some 16) _ = _
                    simp only [Act.put, List.setIfInBounds_toArray, List.set_cons_zero, List.set_cons_succ, i64_w, i32_w]
                    rfl
                   exact norm_ (by simp only [putAll, Act.put, List.setIfInBounds_toArray, List.set_cons_zero, List.set_cons_succ]) (hCont (v256, gb262) _ ⟨hHeld, (by (with_reducible repeat (first | apply vA | apply vN | apply vD)); exact Kd.V_mono HL254_0.out (fun _ hk => ⟨hk.1.1, ⟨hk.1.2.1, ⟨hk.1.2.2.1, ⟨hk.1.2.2.2.1, ⟨hk.1.2.2.2.2, hk.2⟩⟩⟩⟩⟩)), (by (with_reducible repeat (first | apply vA | apply vN | apply vD)); exact Kd.V_mono HO257.out (fun _ hk => ⟨hk.1.1, ⟨hk.1.2.1, ⟨hk.1.2.2.1, ⟨hk.1.2.2.2.1, ⟨hk.1.2.2.2.2, hk.2⟩⟩⟩⟩⟩)), (by (with_reducible repeat (first | apply vA | apply vN | apply vD)); exact Kd.V_mono HO_231000.out (fun _ hk => ⟨hk.1.1, ⟨hk.1.2.1, ⟨hk.1.2.2.1, ⟨hk.1.2.2.2.1, ⟨hk.1.2.2.2.2, hk.2⟩⟩⟩⟩⟩)), (by (with_reducible repeat (first | apply bN | apply bD | apply bA)); exact BK222.out), (by (with_reducible repeat (first | apply bN | apply bD | apply bA)); exact BK230.out), (by (with_reducible repeat (first | apply bN | apply bD | apply bA)); exact BK236.out), (by (with_reducible repeat (first | apply bN | apply bD | apply bA)); exact BK237.out), (by (with_reducible repeat (first | apply bN | apply bD | apply bA)); exact BK262.out), GW262.out, GE262.out, NB222_262.out, NB262_222.out, NB230_262.out, NB262_230.out, NB236_262.out, NB262_236.out, NB237_262.out, NB262_237.out, (by repeat (first | (with_reducible first | exact HB.out | apply below_alloc | apply pw_below_drewN | apply below_drew1 | refine below_set ?_ GE222.out | refine below_set ?_ GE230.out | refine below_set ?_ GE236.out | refine below_set ?_ GE237.out | refine below_set ?_ GE262.out) | exact HB.out))⟩)
                  ·
                   skip
                   refine box_step ?hg (N := 16) ?hd (cs := #[.slice none 0 0, .bool false, .bool false, .int .i64 0]) (t := 26) ?hr ?_; (case hd => rfl); (case hg => rfl); (case hr => first | (go_simp; done) | (go_simp; rfl))
                   intro gb262 hg w101 hbox hb
                   have HS11_ := (hb.cell (World.block_lt_of_cell? _ _ (hHeld.2.2.2.2.2.2.2.2.2.2.2.1))).trans (hHeld.2.2.2.2.2.2.2.2.2.2.2.1)
                   have HS12_ := (hb.cell (World.block_lt_of_cell? _ _ (hHeld.2.2.2.2.2.2.2.2.2.2.2.2.1))).trans (hHeld.2.2.2.2.2.2.2.2.2.2.2.2.1)
                   have HS13_ := (hb.cell (World.block_lt_of_cell? _ _ (hHeld.2.2.2.2.2.2.2.2.2.2.2.2.2.1))).trans (hHeld.2.2.2.2.2.2.2.2.2.2.2.2.2.1)
                   have HS14_ := (hb.cell (World.block_lt_of_cell? _ _ (hHeld.2.2.2.2.2.2.2.2.2.2.2.2.2.2))).trans (hHeld.2.2.2.2.2.2.2.2.2.2.2.2.2.2)
                   have n0_ := Aside0.mk (Kd.V_below (Kd.V_elderB (by (with_reducible repeat (first | apply vA | apply vN | apply vD)); exact HO_231000.out) gb262 (Nat.le_of_eq hg.symm)) hb)
                   have n1_ := Aside0.mk (Kd.V_below (Kd.V_elderB (by (with_reducible repeat (first | apply vA | apply vN | apply vD)); exact HL254_0.out) gb262 (Nat.le_of_eq hg.symm)) hb)
                   have n2_ := Aside0.mk (blk_below (g := gb222) (o := .cells #[.slice none 0 0, .bool false, .bool false, .int .i64 0] 26 (0, 0)) (by (with_reducible repeat (first | apply bN | apply bD | apply bA)); exact BK222.out) hb)
                   have n3_ := Aside0.mk (blk_below (g := gb230) (o := .cells #[.slice (some ad254) x231000_1.length co99, .bool x231001_1, .bool x231002_1, .int .i64 x231003_1] 26 (0, 0)) (by (with_reducible repeat (first | apply bN | apply bD | apply bA)); exact BK230.out) hb)
                   have n4_ := Aside0.mk (blk_below (g := gb236) (o := .cells #[.bool t233, .string t234, .string t235] 42 (0, 0)) (by (with_reducible repeat (first | apply bN | apply bD | apply bA)); exact BK236.out) hb)
                   have n5_ := Aside0.mk (blk_below (g := gb237) (o := .cells #[.int .i64 x238000_21, .string x238001_21, .string x238002_21, .int .i64 x238003_21] 33 (0, 0)) (by (with_reducible repeat (first | apply bN | apply bD | apply bA)); exact BK237.out) hb)
                   have n6_ := Aside0.mk (Kd.C_below (by repeat (first | (with_reducible exact HR254_0.out) | (with_reducible refine Kd.C_alloc ?_ _) | (with_reducible refine Kd.C_drewN ?_ _) | (with_reducible refine Kd.C_drew ?_) | exact HR254_0.out)) hb)
                   have n7_ := Aside0.mk (below_step (by repeat (first | (with_reducible first | exact HB.out | apply below_alloc | apply pw_below_drewN | apply below_drew1 | refine below_set ?_ GE222.out | refine below_set ?_ GE230.out | refine below_set ?_ GE236.out | refine below_set ?_ GE237.out) | exact HB.out)) hb)
                   have n8_ := Aside0.mk (hbox)
                   have n9_ := Aside0.mk ((by rw [hg]; exact (below_size (by repeat (first | (with_reducible first | exact HB.out | apply below_alloc | apply pw_below_drewN | apply below_drew1 | refine below_set ?_ GE222.out | refine below_set ?_ GE230.out | refine below_set ?_ GE236.out | refine below_set ?_ GE237.out) | exact HB.out))) : w.heap.size ≤ gb262))
                   have n10_ := Aside0.mk ((by rw [hg]; exact (below_size (by repeat (first | (with_reducible first | exact HB.out | apply below_alloc | apply pw_below_drewN | apply below_drew1 | refine below_set ?_ GE222.out | refine below_set ?_ GE230.out | refine below_set ?_ GE236.out | refine below_set ?_ GE237.out) | exact HB.out))) : w.heap.size ≤ gb262))
                   have n11_ := Aside0.mk ((by rw [hg]; exact Nat.ne_of_lt (blk_lt (g := gb222) (o := .cells #[.slice none 0 0, .bool false, .bool false, .int .i64 0] 26 (0, 0)) (by (with_reducible repeat (first | apply bN | apply bD | apply bA)); exact BK222.out)) : gb222 ≠ gb262))
                   have n12_ := Aside0.mk ((by rw [hg]; exact Nat.ne_of_gt (blk_lt (g := gb222) (o := .cells #[.slice none 0 0, .bool false, .bool false, .int .i64 0] 26 (0, 0)) (by (with_reducible repeat (first | apply bN | apply bD | apply bA)); exact BK222.out)) : gb262 ≠ gb222))
                   have n13_ := Aside0.mk ((by rw [hg]; exact Nat.ne_of_lt (blk_lt (g := gb230) (o := .cells #[.slice (some ad254) x231000_1.length co99, .bool x231001_1, .bool x231002_1, .int .i64 x231003_1] 26 (0, 0)) (by (with_reducible repeat (first | apply bN | apply bD | apply bA)); exact BK230.out)) : gb230 ≠ gb262))
                   have n14_ := Aside0.mk ((by rw [hg]; exact Nat.ne_of_gt (blk_lt (g := gb230) (o := .cells #[.slice (some ad254) x231000_1.length co99, .bool x231001_1, .bool x231002_1, .int .i64 x231003_1] 26 (0, 0)) (by (with_reducible repeat (first | apply bN | apply bD | apply bA)); exact BK230.out)) : gb262 ≠ gb230))
                   have n15_ := Aside0.mk ((by rw [hg]; exact Nat.ne_of_lt (blk_lt (g := gb236) (o := .cells #[.bool t233, .string t234, .string t235] 42 (0, 0)) (by (with_reducible repeat (first | apply bN | apply bD | apply bA)); exact BK236.out)) : gb236 ≠ gb262))
                   have n16_ := Aside0.mk ((by rw [hg]; exact Nat.ne_of_gt (blk_lt (g := gb236) (o := .cells #[.bool t233, .string t234, .string t235] 42 (0, 0)) (by (with_reducible repeat (first | apply bN | apply bD | apply bA)); exact BK236.out)) : gb262 ≠ gb236))
                   have n17_ := Aside0.mk ((by rw [hg]; exact Nat.ne_of_lt (blk_lt (g := gb237) (o := .cells #[.int .i64 x238000_21, .string x238001_21, .string x238002_21, .int .i64 x238003_21] 33 (0, 0)) (by (with_reducible repeat (first | apply bN | apply bD | apply bA)); exact BK237.out)) : gb237 ≠ gb262))
                   have n18_ := Aside0.mk ((by rw [hg]; exact Nat.ne_of_gt (blk_lt (g := gb237) (o := .cells #[.int .i64 x238000_21, .string x238001_21, .string x238002_21, .int .i64 x238003_21] 33 (0, 0)) (by (with_reducible repeat (first | apply bN | apply bD | apply bA)); exact BK237.out)) : gb262 ≠ gb237))
                   clear HO_231000
                   clear HL254_0
                   clear BK222
                   clear BK230
                   clear BK236
                   clear BK237
                   clear HR254_0
                   clear HB
                   have HO_231000 := n0_
                   have HL254_0 := n1_
                   have BK222 := n2_
                   have BK230 := n3_
                   have BK236 := n4_
                   have BK237 := n5_
                   have HR254_0 := n6_
                   have HB := n7_
                   have BK262 := n8_
                   have GW262 := n9_
                   have GE262 := n10_
                   have NB222_262 := n11_
                   have NB262_222 := n12_
                   have NB230_262 := n13_
                   have NB262_230 := n14_
                   have NB236_262 := n15_
                   have NB262_236 := n16_
                   have NB237_262 := n17_
                   have NB262_237 := n18_
                   clear n0_ n1_ n2_ n3_ n4_ n5_ n6_ n7_ n8_ n9_ n10_ n11_ n12_ n13_ n14_ n15_ n16_ n17_ n18_
                   clear hb hbox hg
                   refine hK.out _ _ ⟨(blk_cell BK230.out 0).trans rfl, (blk_cell BK230.out 1).trans rfl, (blk_cell BK230.out 2).trans rfl, (blk_cell BK230.out 3).trans rfl, (blk_cell BK236.out 0).trans rfl, (blk_cell BK236.out 1).trans rfl, (blk_cell BK236.out 2).trans rfl, (blk_cell BK237.out 0).trans rfl, (blk_cell BK237.out 1).trans rfl, (blk_cell BK237.out 2).trans rfl, (blk_cell BK237.out 3).trans rfl, HS11_, HS12_, HS13_, HS14_⟩ (fun hHeld => ?_)
                   clear hK K
                   refine norm_ (a' := ?_) ?_ ?_
                   rotate_left
                   ·
                    show Act.put _ (some 16) _ = _
                    simp only [Act.put, List.setIfInBounds_toArray, List.set_cons_zero, List.set_cons_succ, i64_w, i32_w]
                    rfl
                   refine one_ (i := 10) (N := some 87) #[true, true, true, true, true, true, true, true, true, true, true, false, false, false, true, false, false] rfl rfl (one_of HT_.out (by kernel_rfl)) (by decide) (fun K hK => ?_)
                   refine goes_ Try.func13 (by kernel_rfl) rfl #[.agg #[.slice (some ad254) x231000_1.length co99, .bool x231001_1, .bool x231002_1, .int .i64 x231003_1], .int .i64 (ji93), .int .i64 ((rd_T45 x231000_1 (ji93)).f1), .agg #[.bool t233, .string t234, .string t235], .agg #[.int .i64 x238000_21, .string x238001_21, .string x238002_21, .int .i64 x238003_21]] (by rfl) rfl rfl (by (try simp only [List.map_toArray, List.map_cons, List.map_nil]); first | done | (simp only [hji93]; rfl) | rfl | (simp only [List.length_drop, List.length_take]; rfl)) ?_
                   with_reducible refine (clinkerref05_Program.calls _ _ x231000_1 x231001_1 x231002_1 x231003_1 (ji93) ((rd_T45 x231000_1 (ji93)).f1) t233 t234 t235 x238000_21 x238001_21 x238002_21 x238003_21 t255 t258 t259 t260 t261 _ ?side1 ?side2 A96.out).mono ?_
                   (case side1 => repeat (first | exact (Kd.V_reads' HO_231000.out).2.2 | (with_reducible refine Kd.C_alloc ?_ _) | (with_reducible refine Kd.C_drewN ?_ _) | (with_reducible refine Kd.C_drew ?_)))
                   (case side2 => exact (Kd.V_reads' HO_231000.out).2.1)
                   rintro e w102 ⟨v256, rfl, ho0, hb⟩
                   have HS11_ := (hb.cell (World.block_lt_of_cell? _ _ (hHeld.2.2.2.2.2.2.2.2.2.2.2.1))).trans (hHeld.2.2.2.2.2.2.2.2.2.2.2.1)
                   have HS12_ := (hb.cell (World.block_lt_of_cell? _ _ (hHeld.2.2.2.2.2.2.2.2.2.2.2.2.1))).trans (hHeld.2.2.2.2.2.2.2.2.2.2.2.2.1)
                   have HS13_ := (hb.cell (World.block_lt_of_cell? _ _ (hHeld.2.2.2.2.2.2.2.2.2.2.2.2.2.1))).trans (hHeld.2.2.2.2.2.2.2.2.2.2.2.2.2.1)
                   have HS14_ := (hb.cell (World.block_lt_of_cell? _ _ (hHeld.2.2.2.2.2.2.2.2.2.2.2.2.2.2))).trans (hHeld.2.2.2.2.2.2.2.2.2.2.2.2.2.2)
                   refine ⟨_, rfl, ?_⟩
                   have n0_ := Aside0.mk (Kd.V_below (by (with_reducible repeat (first | apply vA | apply vN | apply vD)); exact HO_231000.out) hb)
                   have n1_ := Aside0.mk (Kd.V_below (by (with_reducible repeat (first | apply vA | apply vN | apply vD)); exact HL254_0.out) hb)
                   have n2_ := Aside0.mk (Kd.V_lower (Kd.V_mono (ok' := fun k_ => (w.heap.size ≤ k_) ∧ k_ ≠ gb222 ∧ k_ ≠ gb230 ∧ k_ ≠ gb236 ∧ k_ ≠ gb237 ∧ k_ ≠ gb262) ho0 (fun k_ hk_ => ⟨(Nat.le_trans (below_size (by repeat (first | (with_reducible first | exact HB.out | apply below_alloc | apply pw_below_drewN | apply below_drew1 | refine below_set ?_ GE222.out | refine below_set ?_ GE230.out | refine below_set ?_ GE236.out | refine below_set ?_ GE237.out | refine below_set ?_ GE262.out) | exact HB.out))) hk_), (Kd.freshB (g := gb222) (o := .cells #[.slice none 0 0, .bool false, .bool false, .int .i64 0] 26 (0, 0)) (by (with_reducible repeat (first | apply bN | apply bD | apply bA)); exact BK222.out) k_ hk_), (Kd.freshB (g := gb230) (o := .cells #[.slice (some ad254) x231000_1.length co99, .bool x231001_1, .bool x231002_1, .int .i64 x231003_1] 26 (0, 0)) (by (with_reducible repeat (first | apply bN | apply bD | apply bA)); exact BK230.out) k_ hk_), (Kd.freshB (g := gb236) (o := .cells #[.bool t233, .string t234, .string t235] 42 (0, 0)) (by (with_reducible repeat (first | apply bN | apply bD | apply bA)); exact BK236.out) k_ hk_), (Kd.freshB (g := gb237) (o := .cells #[.int .i64 x238000_21, .string x238001_21, .string x238002_21, .int .i64 x238003_21] 33 (0, 0)) (by (with_reducible repeat (first | apply bN | apply bD | apply bA)); exact BK237.out) k_ hk_), (Kd.freshB (g := gb262) (o := .cells #[.slice none 0 0, .bool false, .bool false, .int .i64 0] 26 (0, 0)) (by (with_reducible repeat (first | apply bN | apply bD | apply bA)); exact BK262.out) k_ hk_)⟩)) (below_size (by repeat (first | (with_reducible first | exact HB.out | apply below_alloc | apply pw_below_drewN | apply below_drew1 | refine below_set ?_ GE222.out | refine below_set ?_ GE230.out | refine below_set ?_ GE236.out | refine below_set ?_ GE237.out | refine below_set ?_ GE262.out) | exact HB.out))))
                   have n3_ := Aside0.mk (blk_below (g := gb222) (o := .cells #[.slice none 0 0, .bool false, .bool false, .int .i64 0] 26 (0, 0)) (by (with_reducible repeat (first | apply bN | apply bD | apply bA)); exact BK222.out) hb)
                   have n4_ := Aside0.mk (blk_below (g := gb230) (o := .cells #[.slice (some ad254) x231000_1.length co99, .bool x231001_1, .bool x231002_1, .int .i64 x231003_1] 26 (0, 0)) (by (with_reducible repeat (first | apply bN | apply bD | apply bA)); exact BK230.out) hb)
                   have n5_ := Aside0.mk (blk_below (g := gb236) (o := .cells #[.bool t233, .string t234, .string t235] 42 (0, 0)) (by (with_reducible repeat (first | apply bN | apply bD | apply bA)); exact BK236.out) hb)
                   have n6_ := Aside0.mk (blk_below (g := gb237) (o := .cells #[.int .i64 x238000_21, .string x238001_21, .string x238002_21, .int .i64 x238003_21] 33 (0, 0)) (by (with_reducible repeat (first | apply bN | apply bD | apply bA)); exact BK237.out) hb)
                   have n7_ := Aside0.mk (Kd.C_below (by repeat (first | (with_reducible exact HR254_0.out) | (with_reducible refine Kd.C_alloc ?_ _) | (with_reducible refine Kd.C_drewN ?_ _) | (with_reducible refine Kd.C_drew ?_) | exact HR254_0.out)) hb)
                   have n8_ := Aside0.mk (blk_below (g := gb262) (o := .cells #[.slice none 0 0, .bool false, .bool false, .int .i64 0] 26 (0, 0)) (by (with_reducible repeat (first | apply bN | apply bD | apply bA)); exact BK262.out) hb)
                   have n9_ := Aside0.mk (below_step (by repeat (first | (with_reducible first | exact HB.out | apply below_alloc | apply pw_below_drewN | apply below_drew1 | refine below_set ?_ GE222.out | refine below_set ?_ GE230.out | refine below_set ?_ GE236.out | refine below_set ?_ GE237.out | refine below_set ?_ GE262.out) | exact HB.out)) hb)
                   clear HO_231000
                   clear HL254_0
                   clear BK222
                   clear BK230
                   clear BK236
                   clear BK237
                   clear HR254_0
                   clear BK262
                   clear HB
                   have HO_231000 := n0_
                   have HL254_0 := n1_
                   have HO257 := n2_
                   have BK222 := n3_
                   have BK230 := n4_
                   have BK236 := n5_
                   have BK237 := n6_
                   have HR254_0 := n7_
                   have BK262 := n8_
                   have HB := n9_
                   clear n0_ n1_ n2_ n3_ n4_ n5_ n6_ n7_ n8_ n9_
                   (try clear hb)
                   (try clear hb2)
                   (try clear hk)
                   (try clear hi)
                   (try clear ho0)
                   refine hK.out _ _ ⟨(blk_cell BK230.out 0).trans rfl, (blk_cell BK230.out 1).trans rfl, (blk_cell BK230.out 2).trans rfl, (blk_cell BK230.out 3).trans rfl, (blk_cell BK236.out 0).trans rfl, (blk_cell BK236.out 1).trans rfl, (blk_cell BK236.out 2).trans rfl, (blk_cell BK237.out 0).trans rfl, (blk_cell BK237.out 1).trans rfl, (blk_cell BK237.out 2).trans rfl, (blk_cell BK237.out 3).trans rfl, HS11_, HS12_, HS13_, HS14_⟩ (fun hHeld => ?_)
                   clear hK K
                   refine norm_ (a' := ?_) ?_ ?_
                   rotate_left
                   ·
                    show Act.put _ (some 87) _ = _
                    simp only [Act.put, List.setIfInBounds_toArray, List.set_cons_zero, List.set_cons_succ, i64_w, i32_w]
                    rfl
                   refine pure_ (i := 11) (N := some 76) (v := ?_) (a' := ?_) #[true, true, true, true, true, true, true, true, true, true, true, true, false, false, true, false, false] rfl rfl (any_of HT_.out (by kernel_rfl)) (fun _ _ _ h => h) (Or.inl ⟨by rfl, ?_⟩) ?_ ?_
                   rotate_left
                   ·
                    intro w'
                    go_simp
                    with_reducible rfl
                   rotate_left
                   ·
                    simp only [Act.put, List.setIfInBounds_toArray, List.set_cons_zero, List.set_cons_succ, i64_w, i32_w]
                    rfl
                   refine pure_ (i := 12) (N := some 88) (v := ?_) (a' := ?_) #[true, true, true, true, true, true, true, true, true, true, true, true, true, false, true, false, false] rfl rfl (any_of HT_.out (by kernel_rfl)) (fun _ _ _ h => h) (Or.inl ⟨by rfl, ?_⟩) ?_ ?_
                   rotate_left
                   ·
                    intro w'
                    go_simp
                    with_reducible rfl
                   rotate_left
                   ·
                    simp only [Act.put, List.setIfInBounds_toArray, List.set_cons_zero, List.set_cons_succ, i64_w, i32_w]
                    rfl
                   refine pure_ (i := 13) (N := some 89) (v := ?_) (a' := ?_) #[true, true, true, true, true, true, true, true, true, true, true, true, true, true, true, false, false] rfl rfl (any_of HT_.out (by kernel_rfl)) (fun _ _ _ h => h) (Or.inl ⟨by rfl, ?_⟩) ?_ ?_
                   rotate_left
                   ·
                    intro w'
                    go_simp
                    with_reducible rfl
                   rotate_left
                   ·
                    simp only [Act.put, List.setIfInBounds_toArray, List.set_cons_zero, List.set_cons_succ, i64_w, i32_w]
                    rfl
                   exact norm_ (by simp only [putAll, Act.put, List.setIfInBounds_toArray, List.set_cons_zero, List.set_cons_succ]) (hCont (v256, gb262) _ ⟨hHeld, (by (with_reducible repeat (first | apply vA | apply vN | apply vD)); exact Kd.V_mono HL254_0.out (fun _ hk => ⟨hk.1.1, ⟨hk.1.2.1, ⟨hk.1.2.2.1, ⟨hk.1.2.2.2.1, ⟨hk.1.2.2.2.2, hk.2⟩⟩⟩⟩⟩)), (by (with_reducible repeat (first | apply vA | apply vN | apply vD)); exact HO257.out), (by (with_reducible repeat (first | apply vA | apply vN | apply vD)); exact Kd.V_mono HO_231000.out (fun _ hk => ⟨hk.1.1, ⟨hk.1.2.1, ⟨hk.1.2.2.1, ⟨hk.1.2.2.2.1, ⟨hk.1.2.2.2.2, hk.2⟩⟩⟩⟩⟩)), (by (with_reducible repeat (first | apply bN | apply bD | apply bA)); exact BK222.out), (by (with_reducible repeat (first | apply bN | apply bD | apply bA)); exact BK230.out), (by (with_reducible repeat (first | apply bN | apply bD | apply bA)); exact BK236.out), (by (with_reducible repeat (first | apply bN | apply bD | apply bA)); exact BK237.out), (by (with_reducible repeat (first | apply bN | apply bD | apply bA)); exact BK262.out), GW262.out, GE262.out, NB222_262.out, NB262_222.out, NB230_262.out, NB262_230.out, NB236_262.out, NB262_236.out, NB237_262.out, NB262_237.out, (by repeat (first | (with_reducible first | exact HB.out | apply below_alloc | apply pw_below_drewN | apply below_drew1 | refine below_set ?_ GE222.out | refine below_set ?_ GE230.out | refine below_set ?_ GE236.out | refine below_set ?_ GE237.out | refine below_set ?_ GE262.out) | exact HB.out))⟩)
                 rintro ⟨v256, gb262⟩ w103 ⟨hS_, h0_, h1_, h2_, h3_, h4_, h5_, h6_, h7_, h8_, h9_, h10_, h11_, h12_, h13_, h14_, h15_, h16_, h17_, h18_⟩
                 have n0_ : Aside0 (Kd.V k42 42 w103 w.heap.size (fun k_ => (w.heap.size ≤ k_) ∧ k_ ≠ gb222 ∧ k_ ≠ gb230 ∧ k_ ≠ gb236 ∧ k_ ≠ gb237 ∧ k_ ≠ gb262) (.slice A254_0 ((rd_T45 x231000_1 (ji93)).f0).length c254_0) ((rd_T45 x231000_1 (ji93)).f0)) := ⟨h0_⟩
                 have n1_ : Aside0 (Kd.V k45 45 w103 w.heap.size (fun k_ => (w.heap.size ≤ k_) ∧ k_ ≠ gb222 ∧ k_ ≠ gb230 ∧ k_ ≠ gb236 ∧ k_ ≠ gb237 ∧ k_ ≠ gb262) v256 t255) := ⟨h1_⟩
                 have n2_ : Aside0 (Kd.V k45 45 w103 w.heap.size (fun k_ => (w.heap.size ≤ k_) ∧ k_ ≠ gb222 ∧ k_ ≠ gb230 ∧ k_ ≠ gb236 ∧ k_ ≠ gb237 ∧ k_ ≠ gb262) (.slice (some ad254) x231000_1.length co99) x231000_1) := ⟨h2_⟩
                 have n3_ : Aside0 (w103.heap[gb222]? = some (.cells #[.slice none 0 0, .bool false, .bool false, .int .i64 0] 26 (0, 0))) := ⟨h3_⟩
                 have n4_ : Aside0 (w103.heap[gb230]? = some (.cells #[.slice (some ad254) x231000_1.length co99, .bool x231001_1, .bool x231002_1, .int .i64 x231003_1] 26 (0, 0))) := ⟨h4_⟩
                 have n5_ : Aside0 (w103.heap[gb236]? = some (.cells #[.bool t233, .string t234, .string t235] 42 (0, 0))) := ⟨h5_⟩
                 have n6_ : Aside0 (w103.heap[gb237]? = some (.cells #[.int .i64 x238000_21, .string x238001_21, .string x238002_21, .int .i64 x238003_21] 33 (0, 0))) := ⟨h6_⟩
                 have n7_ : Aside0 (w103.heap[gb262]? = some (.cells #[.slice none 0 0, .bool false, .bool false, .int .i64 0] 26 (0, 0))) := ⟨h7_⟩
                 have n8_ : Aside0 (w.heap.size ≤ gb262) := ⟨h8_⟩
                 have n9_ : Aside0 (w.heap.size ≤ gb262) := ⟨h9_⟩
                 have n10_ : Aside0 (gb222 ≠ gb262) := ⟨h10_⟩
                 have n11_ : Aside0 (gb262 ≠ gb222) := ⟨h11_⟩
                 have n12_ : Aside0 (gb230 ≠ gb262) := ⟨h12_⟩
                 have n13_ : Aside0 (gb262 ≠ gb230) := ⟨h13_⟩
                 have n14_ : Aside0 (gb236 ≠ gb262) := ⟨h14_⟩
                 have n15_ : Aside0 (gb262 ≠ gb236) := ⟨h15_⟩
                 have n16_ : Aside0 (gb237 ≠ gb262) := ⟨h16_⟩
                 have n17_ : Aside0 (gb262 ≠ gb237) := ⟨h17_⟩
                 have n18_ : Aside0 (Below w.heap.size w w103) := ⟨h18_⟩
                 clear HO_231000
                 clear BK222
                 clear BK230
                 clear BK236
                 clear BK237
                 clear HB
                 clear h0_ h1_ h2_ h3_ h4_ h5_ h6_ h7_ h8_ h9_ h10_ h11_ h12_ h13_ h14_ h15_ h16_ h17_ h18_
                 have HL254_0 := n0_
                 have HO257 := n1_
                 have HO_231000 := n2_
                 have BK222 := n3_
                 have BK230 := n4_
                 have BK236 := n5_
                 have BK237 := n6_
                 have BK262 := n7_
                 have GW262 := n8_
                 have GE262 := n9_
                 have NB222_262 := n10_
                 have NB262_222 := n11_
                 have NB230_262 := n12_
                 have NB262_230 := n13_
                 have NB236_262 := n14_
                 have NB262_236 := n15_
                 have NB237_262 := n16_
                 have NB262_237 := n17_
                 have HB := n18_
                 clear n0_ n1_ n2_ n3_ n4_ n5_ n6_ n7_ n8_ n9_ n10_ n11_ n12_ n13_ n14_ n15_ n16_ n17_ n18_
                 have hHeld : w103.cell? ⟨gb230, 0, none⟩ = some (.slice (some ad254) x231000_1.length co99) ∧ w103.cell? ⟨gb230, 1, none⟩ = some (.bool x231001_1) ∧ w103.cell? ⟨gb230, 2, none⟩ = some (.bool x231002_1) ∧ w103.cell? ⟨gb230, 3, none⟩ = some (.int .i64 x231003_1) ∧ w103.cell? ⟨gb236, 0, none⟩ = some (.bool t233) ∧ w103.cell? ⟨gb236, 1, none⟩ = some (.string t234) ∧ w103.cell? ⟨gb236, 2, none⟩ = some (.string t235) ∧ w103.cell? ⟨gb237, 0, none⟩ = some (.int .i64 x238000_21) ∧ w103.cell? ⟨gb237, 1, none⟩ = some (.string x238001_21) ∧ w103.cell? ⟨gb237, 2, none⟩ = some (.string x238002_21) ∧ w103.cell? ⟨gb237, 3, none⟩ = some (.int .i64 x238003_21) ∧ w103.cell? (ad254.add (((ji93)).toNat * 4)) = some (.slice A254_0 ((rd_T45 x231000_1 (ji93)).f0).length c254_0) ∧ w103.cell? ⟨(ad254.add (((ji93)).toNat * 4)).block, (ad254.add (((ji93)).toNat * 4)).off + 1, none⟩ = some (.int .i64 ((rd_T45 x231000_1 (ji93)).f1)) ∧ w103.cell? ⟨(ad254.add (((ji93)).toNat * 4)).block, (ad254.add (((ji93)).toNat * 4)).off + 2, none⟩ = some (.int .i64 ((rd_T45 x231000_1 (ji93)).f2)) ∧ w103.cell? ⟨(ad254.add (((ji93)).toNat * 4)).block, (ad254.add (((ji93)).toNat * 4)).off + 3, none⟩ = some (.bool ((rd_T45 x231000_1 (ji93)).f3)) := hS_
                 obtain ⟨Ao104, co104, eo104⟩ := Kd.V_slice HO257.out
                 (first | subst eo104 | (injection eo104 with f1_ f2_ f3_; have f4_ := f1_.symm; have f5_ := f3_.symm; clear f1_ f2_ f3_; subst f4_; subst f5_))
                 refine norm_ (a' := ?_) ?_ ?_
                 rotate_left
                 ·
                  simp only [putAll, Act.put, List.setIfInBounds_toArray, List.set_cons_zero, List.set_cons_succ]
                  rfl
                 refine one_ (i := 15) (N := none) #[true, true, true, true, true, true, true, true, true, true, true, true, true, true, true, true, false] rfl rfl (one_of HT_.out (by kernel_rfl)) (by decide) (fun K hK => ?_)
                 have hs105 : w103.cell? ⟨gb262, 0, none⟩ = some (.slice none 0 0) := (blk_cell BK262.out 0).trans rfl
                 have hfs105 := blk_frozen BK262.out 0
                 have hns105_0 := NB222_262.out
                 have hns105_1 := NB230_262.out
                 have hns105_2 := NB236_262.out
                 have hns105_3 := NB237_262.out
                 have hms105_0 := NB262_222.out
                 have hms105_1 := NB262_230.out
                 have hms105_2 := NB262_236.out
                 have hms105_3 := NB262_237.out
                 have hs106 : w103.cell? ⟨gb262, 1, none⟩ = some (.bool false) := (blk_cell BK262.out 1).trans rfl
                 have hfs106 := blk_frozen BK262.out 1
                 have hns106_0 := NB222_262.out
                 have hns106_1 := NB230_262.out
                 have hns106_2 := NB236_262.out
                 have hns106_3 := NB237_262.out
                 have hms106_0 := NB262_222.out
                 have hms106_1 := NB262_230.out
                 have hms106_2 := NB262_236.out
                 have hms106_3 := NB262_237.out
                 have hs107 : w103.cell? ⟨gb262, 2, none⟩ = some (.bool false) := (blk_cell BK262.out 2).trans rfl
                 have hfs107 := blk_frozen BK262.out 2
                 have hns107_0 := NB222_262.out
                 have hns107_1 := NB230_262.out
                 have hns107_2 := NB236_262.out
                 have hns107_3 := NB237_262.out
                 have hms107_0 := NB262_222.out
                 have hms107_1 := NB262_230.out
                 have hms107_2 := NB262_236.out
                 have hms107_3 := NB262_237.out
                 have hs108 : w103.cell? ⟨gb262, 3, none⟩ = some (.int .i64 0) := (blk_cell BK262.out 3).trans rfl
                 have hfs108 := blk_frozen BK262.out 3
                 have hns108_0 := NB222_262.out
                 have hns108_1 := NB230_262.out
                 have hns108_2 := NB236_262.out
                 have hns108_3 := NB237_262.out
                 have hms108_0 := NB262_222.out
                 have hms108_1 := NB262_230.out
                 have hms108_2 := NB262_236.out
                 have hms108_3 := NB262_237.out
                 refine skip_ (w1 := ?_) (by rfl) rfl ?_ ?_
                 rotate_left
                 ·
                  go_simp
                  rfl
                 have hF0_ : (ad254.add ((ji93).toNat * 4)).block ≠ gb262 := by rw [add_block]; exact vaw HO_231000.out ji93 (by first | exact of_eq_true p254 | assumption | omega) (by first | exact of_eq_true q254 | assumption | omega) (fun _ hk => hk.2.2.2.2.2)
                 refine hK.out _ _ ⟨((cell_far (p := ⟨gb262, _, none⟩) NB230_262.out _).trans (((cell_far (p := ⟨gb262, _, none⟩) NB230_262.out _).trans (((cell_far (p := ⟨gb262, _, none⟩) NB230_262.out _).trans (((cell_far (p := ⟨gb262, _, none⟩) NB230_262.out _).trans (hHeld.1)))))))), ((cell_far (p := ⟨gb262, _, none⟩) NB230_262.out _).trans (((cell_far (p := ⟨gb262, _, none⟩) NB230_262.out _).trans (((cell_far (p := ⟨gb262, _, none⟩) NB230_262.out _).trans (((cell_far (p := ⟨gb262, _, none⟩) NB230_262.out _).trans (hHeld.2.1)))))))), ((cell_far (p := ⟨gb262, _, none⟩) NB230_262.out _).trans (((cell_far (p := ⟨gb262, _, none⟩) NB230_262.out _).trans (((cell_far (p := ⟨gb262, _, none⟩) NB230_262.out _).trans (((cell_far (p := ⟨gb262, _, none⟩) NB230_262.out _).trans (hHeld.2.2.1)))))))), ((cell_far (p := ⟨gb262, _, none⟩) NB230_262.out _).trans (((cell_far (p := ⟨gb262, _, none⟩) NB230_262.out _).trans (((cell_far (p := ⟨gb262, _, none⟩) NB230_262.out _).trans (((cell_far (p := ⟨gb262, _, none⟩) NB230_262.out _).trans (hHeld.2.2.2.1)))))))), ((cell_far (p := ⟨gb262, _, none⟩) NB236_262.out _).trans (((cell_far (p := ⟨gb262, _, none⟩) NB236_262.out _).trans (((cell_far (p := ⟨gb262, _, none⟩) NB236_262.out _).trans (((cell_far (p := ⟨gb262, _, none⟩) NB236_262.out _).trans (hHeld.2.2.2.2.1)))))))), ((cell_far (p := ⟨gb262, _, none⟩) NB236_262.out _).trans (((cell_far (p := ⟨gb262, _, none⟩) NB236_262.out _).trans (((cell_far (p := ⟨gb262, _, none⟩) NB236_262.out _).trans (((cell_far (p := ⟨gb262, _, none⟩) NB236_262.out _).trans (hHeld.2.2.2.2.2.1)))))))), ((cell_far (p := ⟨gb262, _, none⟩) NB236_262.out _).trans (((cell_far (p := ⟨gb262, _, none⟩) NB236_262.out _).trans (((cell_far (p := ⟨gb262, _, none⟩) NB236_262.out _).trans (((cell_far (p := ⟨gb262, _, none⟩) NB236_262.out _).trans (hHeld.2.2.2.2.2.2.1)))))))), ((cell_far (p := ⟨gb262, _, none⟩) NB237_262.out _).trans (((cell_far (p := ⟨gb262, _, none⟩) NB237_262.out _).trans (((cell_far (p := ⟨gb262, _, none⟩) NB237_262.out _).trans (((cell_far (p := ⟨gb262, _, none⟩) NB237_262.out _).trans (hHeld.2.2.2.2.2.2.2.1)))))))), ((cell_far (p := ⟨gb262, _, none⟩) NB237_262.out _).trans (((cell_far (p := ⟨gb262, _, none⟩) NB237_262.out _).trans (((cell_far (p := ⟨gb262, _, none⟩) NB237_262.out _).trans (((cell_far (p := ⟨gb262, _, none⟩) NB237_262.out _).trans (hHeld.2.2.2.2.2.2.2.2.1)))))))), ((cell_far (p := ⟨gb262, _, none⟩) NB237_262.out _).trans (((cell_far (p := ⟨gb262, _, none⟩) NB237_262.out _).trans (((cell_far (p := ⟨gb262, _, none⟩) NB237_262.out _).trans (((cell_far (p := ⟨gb262, _, none⟩) NB237_262.out _).trans (hHeld.2.2.2.2.2.2.2.2.2.1)))))))), ((cell_far (p := ⟨gb262, _, none⟩) NB237_262.out _).trans (((cell_far (p := ⟨gb262, _, none⟩) NB237_262.out _).trans (((cell_far (p := ⟨gb262, _, none⟩) NB237_262.out _).trans (((cell_far (p := ⟨gb262, _, none⟩) NB237_262.out _).trans (hHeld.2.2.2.2.2.2.2.2.2.2.1)))))))), ((cell_far (p := ⟨gb262, _, none⟩) (by exact hF0_) _).trans (((cell_far (p := ⟨gb262, _, none⟩) (by exact hF0_) _).trans (((cell_far (p := ⟨gb262, _, none⟩) (by exact hF0_) _).trans (((cell_far (p := ⟨gb262, _, none⟩) (by exact hF0_) _).trans (hHeld.2.2.2.2.2.2.2.2.2.2.2.1)))))))), ((cell_far (p := ⟨gb262, _, none⟩) (by exact hF0_) _).trans (((cell_far (p := ⟨gb262, _, none⟩) (by exact hF0_) _).trans (((cell_far (p := ⟨gb262, _, none⟩) (by exact hF0_) _).trans (((cell_far (p := ⟨gb262, _, none⟩) (by exact hF0_) _).trans (hHeld.2.2.2.2.2.2.2.2.2.2.2.2.1)))))))), ((cell_far (p := ⟨gb262, _, none⟩) (by exact hF0_) _).trans (((cell_far (p := ⟨gb262, _, none⟩) (by exact hF0_) _).trans (((cell_far (p := ⟨gb262, _, none⟩) (by exact hF0_) _).trans (((cell_far (p := ⟨gb262, _, none⟩) (by exact hF0_) _).trans (hHeld.2.2.2.2.2.2.2.2.2.2.2.2.2.1)))))))), ((cell_far (p := ⟨gb262, _, none⟩) (by exact hF0_) _).trans (((cell_far (p := ⟨gb262, _, none⟩) (by exact hF0_) _).trans (((cell_far (p := ⟨gb262, _, none⟩) (by exact hF0_) _).trans (((cell_far (p := ⟨gb262, _, none⟩) (by exact hF0_) _).trans (hHeld.2.2.2.2.2.2.2.2.2.2.2.2.2.2))))))))⟩ (fun hHeld => ?_)
                 clear hK K
                 refine pure_ (i := 16) (N := some 17) (v := ?_) (a' := ?_) #[true, true, true, true, true, true, true, true, true, true, true, true, true, true, true, true, true] rfl rfl (any_of HT_.out (by kernel_rfl)) (fun _ _ _ h => h) (Or.inl ⟨by rfl, ?_⟩) ?_ ?_
                 rotate_left
                 ·
                  intro w'
                  go_simp
                  with_reducible rfl
                 rotate_left
                 ·
                  simp only [Act.put, List.setIfInBounds_toArray, List.set_cons_zero, List.set_cons_succ, i64_w, i32_w]
                  rfl
                 refine done_ (done_of HT_.out (by kernel_rfl)) ?_
                ·
                 have hnb120 := NB262_222.out
                 have hnc120 := NB222_262.out
                 have hnb121 := NB262_230.out
                 have hnc121 := NB230_262.out
                 have hnb122 := NB262_236.out
                 have hnc122 := NB236_262.out
                 have hnb123 := NB262_237.out
                 have hnc123 := NB237_262.out
                 have hcz124_0 : w103.cell? ⟨gb262, 0, none⟩ = some (.slice none 0 0) := (blk_cell BK262.out 0).trans rfl
                 have hcz124_1 : w103.cell? ⟨gb262, 1, none⟩ = some (.bool false) := (blk_cell BK262.out 1).trans rfl
                 have hcz124_2 : w103.cell? ⟨gb262, 2, none⟩ = some (.bool false) := (blk_cell BK262.out 2).trans rfl
                 have hcz124_3 : w103.cell? ⟨gb262, 3, none⟩ = some (.int .i64 0) := (blk_cell BK262.out 3).trans rfl
                 have hfz124_0 := blk_frozen BK262.out 0
                 have hfz124_1 := blk_frozen BK262.out 1
                 have hfz124_2 := blk_frozen BK262.out 2
                 have hfz124_3 := blk_frozen BK262.out 3
                 have hnb125 := NB230_222.out
                 have hnc125 := NB222_230.out
                 have hnb126 := NB230_236.out
                 have hnc126 := NB236_230.out
                 have hnb127 := NB230_237.out
                 have hnc127 := NB237_230.out
                 have hcz128_0 : w103.cell? ⟨gb230, 0, none⟩ = some (.slice (some ad254) x231000_1.length co99) := (blk_cell BK230.out 0).trans rfl
                 have hcz128_1 : w103.cell? ⟨gb230, 1, none⟩ = some (.bool x231001_1) := (blk_cell BK230.out 1).trans rfl
                 have hcz128_2 : w103.cell? ⟨gb230, 2, none⟩ = some (.bool x231002_1) := (blk_cell BK230.out 2).trans rfl
                 have hcz128_3 : w103.cell? ⟨gb230, 3, none⟩ = some (.int .i64 x231003_1) := (blk_cell BK230.out 3).trans rfl
                 have hfz128_0 := blk_frozen BK230.out 0
                 have hfz128_1 := blk_frozen BK230.out 1
                 have hfz128_2 := blk_frozen BK230.out 2
                 have hfz128_3 := blk_frozen BK230.out 3
                 try go_wp2
                 go_roundg kj21
                 case measure => have := HK1.out; have := HJ10.out; have := HJ21.out; omega
                 case rel => exact ⟨(ji98), (wrap64 (x10_1 + 1)), (t255), (t258), (t259), (t260), (.slice Ao104 t255.length co104), (by first | rfl | (simp; done) | (simp only [← hji98] <;> (first | rfl | simp)) | (simp [*]; done)), (by first | rfl | (simp; done) | (simp [*]; done)), H', ⟨by have := HK1.out; have := HJ10.out; have := HJ21.out; omega⟩, ⟨by (with_reducible repeat (first | apply vA | apply vN | apply vD)); exact Kd.V_mono (Kd.V_far (p := ⟨gb230, 3, none⟩) (Kd.V_far (p := ⟨gb230, 2, none⟩) (Kd.V_far (p := ⟨gb230, 1, none⟩) (Kd.V_far (p := ⟨gb230, 0, none⟩) (Kd.V_far (p := ⟨gb262, 3, none⟩) (Kd.V_far (p := ⟨gb262, 2, none⟩) (Kd.V_far (p := ⟨gb262, 1, none⟩) (Kd.V_far (p := ⟨gb262, 0, none⟩) (Kd.V_mono (Kd.V_mono HO257.out (fun k_ hk => (⟨hk, hk.2.2.2.2.2⟩ : _ ∧ k_ ≠ gb262))) (fun k_ hk => (⟨hk, hk.1.2.2.1⟩ : _ ∧ k_ ≠ gb230))) (fun _ hk => hk.1.2) (.slice Ao104 t255.length co104)) (fun _ hk => hk.1.2) (.bool t258)) (fun _ hk => hk.1.2) (.bool t259)) (fun _ hk => hk.1.2) (.int .i64 t260)) (fun _ hk => hk.2) _) (fun _ hk => hk.2) (.bool t258)) (fun _ hk => hk.2) (.bool t259)) (fun _ hk => hk.2) _) (fun _ hk => ⟨hk.1.1.1, ⟨hk.1.1.2.1, hk.1.1.2.2.1⟩⟩)⟩, ⟨by (with_reducible repeat (first | apply bN | apply bD | apply bA)); refine blk_far ?_ NB222_230.out _; (with_reducible repeat (first | apply bN | apply bD | apply bA)); refine blk_far ?_ NB222_230.out _; (with_reducible repeat (first | apply bN | apply bD | apply bA)); refine blk_far ?_ NB222_230.out _; (with_reducible repeat (first | apply bN | apply bD | apply bA)); refine blk_far ?_ NB222_230.out _; (with_reducible repeat (first | apply bN | apply bD | apply bA)); refine blk_far ?_ NB222_262.out _; (with_reducible repeat (first | apply bN | apply bD | apply bA)); refine blk_far ?_ NB222_262.out _; (with_reducible repeat (first | apply bN | apply bD | apply bA)); refine blk_far ?_ NB222_262.out _; (with_reducible repeat (first | apply bN | apply bD | apply bA)); refine blk_far ?_ NB222_262.out _; (with_reducible repeat (first | apply bN | apply bD | apply bA)); exact BK222.out⟩, ⟨by (with_reducible repeat (first | apply bN | apply bD | apply bA)); refine blk_put (cs := #[.slice Ao104 t255.length co104, .bool t258, .bool t259, .int .i64 x231003_1]) ?_ 3 _ rfl; (with_reducible repeat (first | apply bN | apply bD | apply bA)); refine blk_put (cs := #[.slice Ao104 t255.length co104, .bool t258, .bool x231002_1, .int .i64 x231003_1]) ?_ 2 _ rfl; (with_reducible repeat (first | apply bN | apply bD | apply bA)); refine blk_put (cs := #[.slice Ao104 t255.length co104, .bool x231001_1, .bool x231002_1, .int .i64 x231003_1]) ?_ 1 _ rfl; (with_reducible repeat (first | apply bN | apply bD | apply bA)); refine blk_put (cs := #[.slice (some ad254) x231000_1.length co99, .bool x231001_1, .bool x231002_1, .int .i64 x231003_1]) ?_ 0 _ rfl; (with_reducible repeat (first | apply bN | apply bD | apply bA)); refine blk_far ?_ NB230_262.out _; (with_reducible repeat (first | apply bN | apply bD | apply bA)); refine blk_far ?_ NB230_262.out _; (with_reducible repeat (first | apply bN | apply bD | apply bA)); refine blk_far ?_ NB230_262.out _; (with_reducible repeat (first | apply bN | apply bD | apply bA)); refine blk_far ?_ NB230_262.out _; (with_reducible repeat (first | apply bN | apply bD | apply bA)); exact BK230.out⟩, ⟨by repeat (first | (with_reducible first | exact HB.out | apply below_alloc | apply pw_below_drewN | apply below_drew1 | refine below_set ?_ GE222.out | refine below_set ?_ GE230.out | refine below_set ?_ GE236.out | refine below_set ?_ GE237.out | refine below_set ?_ GE262.out) | exact HB.out)⟩⟩
                ·
                 try go_wp2
                 go_roundg kj21
                 case measure => have := HK1.out; have := HJ10.out; have := HJ21.out; omega
                 case rel => exact ⟨(ji98), (wrap64 (x10_1 + 1)), (x231000_1), (x231001_1), (x231002_1), (x231003_1), (.slice (some ad254) x231000_1.length co99), (by first | rfl | (simp; done) | (simp only [← hji98] <;> (first | rfl | simp)) | (simp [*]; done)), (by first | rfl | (simp; done) | (simp [*]; done)), H', ⟨by have := HK1.out; have := HJ10.out; have := HJ21.out; omega⟩, ⟨by (with_reducible repeat (first | apply vA | apply vN | apply vD)); exact Kd.V_mono (Kd.V_far (p := ⟨gb262, 3, none⟩) (Kd.V_far (p := ⟨gb262, 2, none⟩) (Kd.V_far (p := ⟨gb262, 1, none⟩) (Kd.V_far (p := ⟨gb262, 0, none⟩) (Kd.V_mono HO_231000.out (fun k_ hk => (⟨hk, hk.2.2.2.2.2⟩ : _ ∧ k_ ≠ gb262))) (fun _ hk => hk.2) _) (fun _ hk => hk.2) (.bool t258)) (fun _ hk => hk.2) (.bool t259)) (fun _ hk => hk.2) _) (fun _ hk => ⟨hk.1.1, ⟨hk.1.2.1, hk.1.2.2.1⟩⟩)⟩, ⟨by (with_reducible repeat (first | apply bN | apply bD | apply bA)); refine blk_far ?_ NB222_262.out _; (with_reducible repeat (first | apply bN | apply bD | apply bA)); refine blk_far ?_ NB222_262.out _; (with_reducible repeat (first | apply bN | apply bD | apply bA)); refine blk_far ?_ NB222_262.out _; (with_reducible repeat (first | apply bN | apply bD | apply bA)); refine blk_far ?_ NB222_262.out _; (with_reducible repeat (first | apply bN | apply bD | apply bA)); exact BK222.out⟩, ⟨by (with_reducible repeat (first | apply bN | apply bD | apply bA)); refine blk_far ?_ NB230_262.out _; (with_reducible repeat (first | apply bN | apply bD | apply bA)); refine blk_far ?_ NB230_262.out _; (with_reducible repeat (first | apply bN | apply bD | apply bA)); refine blk_far ?_ NB230_262.out _; (with_reducible repeat (first | apply bN | apply bD | apply bA)); refine blk_far ?_ NB230_262.out _; (with_reducible repeat (first | apply bN | apply bD | apply bA)); exact BK230.out⟩, ⟨by repeat (first | (with_reducible first | exact HB.out | apply below_alloc | apply pw_below_drewN | apply below_drew1 | refine below_set ?_ GE222.out | refine below_set ?_ GE230.out | refine below_set ?_ GE236.out | refine below_set ?_ GE237.out | refine below_set ?_ GE262.out) | exact HB.out)⟩⟩
               ·
                rw [if_neg c95] at H
                exact absurd H (by simp)
              ·
               rw [if_neg c94] at H
               exact absurd H (by simp)
          ·
           rw [if_neg c20] at H
           exact absurd H (by simp)
         ·
          rw [if_neg c19] at H
          exact absurd H (by simp)
       ·
        rw [if_neg c15] at H
        exact absurd H (by simp)
      ·
       rw [if_neg c14] at H
       exact absurd H (by simp)
     ·
      replace c13 := Bool.eq_false_iff.mpr c13
      subst c13
      have H1 : (some (x231000_1, x231001_1, x231002_1, x231003_1)) = some (r1, r2, r3, r4) := by rw [if_neg (show ¬ (false = true) by decide)] at H; exact H
      clear H
      have H := H1
      clear H1
      simp only [Option.some.injEq, Prod.mk.injEq] at H
      obtain ⟨rfl, rfl, rfl, rfl⟩ := H
      have hnb129 := NB230_222.out
      have hnc129 := NB222_230.out
      have hcz130_0 : wc.cell? ⟨gb230, 0, none⟩ = some (u231000) := (blk_cell BK230.out 0).trans rfl
      have hcz130_1 : wc.cell? ⟨gb230, 1, none⟩ = some (.bool x231001_1) := (blk_cell BK230.out 1).trans rfl
      have hcz130_2 : wc.cell? ⟨gb230, 2, none⟩ = some (.bool x231002_1) := (blk_cell BK230.out 2).trans rfl
      have hcz130_3 : wc.cell? ⟨gb230, 3, none⟩ = some (.int .i64 x231003_1) := (blk_cell BK230.out 3).trans rfl
      have hfz130_0 := blk_frozen BK230.out 0
      have hfz130_1 := blk_frozen BK230.out 1
      have hfz130_2 := blk_frozen BK230.out 2
      have hfz130_3 := blk_frozen BK230.out 3
      obtain ⟨Ao131, co131, eo131⟩ := Kd.V_slice HO_231000.out
      subst eo131
      have hcz132_0 : wc.cell? ⟨gb222, 0, none⟩ = some (.slice none 0 0) := (blk_cell BK222.out 0).trans rfl
      have hcz132_1 : wc.cell? ⟨gb222, 1, none⟩ = some (.bool false) := (blk_cell BK222.out 1).trans rfl
      have hcz132_2 : wc.cell? ⟨gb222, 2, none⟩ = some (.bool false) := (blk_cell BK222.out 2).trans rfl
      have hcz132_3 : wc.cell? ⟨gb222, 3, none⟩ = some (.int .i64 0) := (blk_cell BK222.out 3).trans rfl
      have hfz132_0 := blk_frozen BK222.out 0
      have hfz132_1 := blk_frozen BK222.out 1
      have hfz132_2 := blk_frozen BK222.out 2
      have hfz132_3 := blk_frozen BK222.out 3
      go_wp2
      refine bodyPost_ret (results_cell_row rfl _ _ gb222 26 #[.slice Ao131 x231000_1.length co131, .bool x231001_1, .bool x231002_1, .int .i64 x231003_1] (0, 0) _ rfl (by (with_reducible repeat (first | apply bN | apply bD | apply bA)); refine blk_put (cs := #[.slice Ao131 x231000_1.length co131, .bool x231001_1, .bool x231002_1, .int .i64 0]) ?_ 3 _ rfl; (with_reducible repeat (first | apply bN | apply bD | apply bA)); refine blk_put (cs := #[.slice Ao131 x231000_1.length co131, .bool x231001_1, .bool false, .int .i64 0]) ?_ 2 _ rfl; (with_reducible repeat (first | apply bN | apply bD | apply bA)); refine blk_put (cs := #[.slice Ao131 x231000_1.length co131, .bool false, .bool false, .int .i64 0]) ?_ 1 _ rfl; (with_reducible repeat (first | apply bN | apply bD | apply bA)); refine blk_put (cs := #[.slice none 0 0, .bool false, .bool false, .int .i64 0]) ?_ 0 _ rfl; (with_reducible repeat (first | apply bN | apply bD | apply bA)); exact BK222.out) Try.underlying26 rfl (by kernel_rfl)) rfl ?_
      exact ⟨_, by first | rfl | (simp [errW_none, errW_some] <;> rfl) | (simp [*, errW_none, errW_some] <;> rfl), by (with_reducible repeat (first | apply vA | apply vN | apply vD)); exact Kd.V_mono (Kd.V_far (p := ⟨gb222, 3, none⟩) (Kd.V_far (p := ⟨gb222, 2, none⟩) (Kd.V_far (p := ⟨gb222, 1, none⟩) (Kd.V_far (p := ⟨gb222, 0, none⟩) (Kd.V_mono HO_231000.out (fun k_ hk => (⟨hk, hk.2.1⟩ : _ ∧ k_ ≠ gb222))) (fun _ hk => hk.2) _) (fun _ hk => hk.2) (.bool x231001_1)) (fun _ hk => hk.2) (.bool x231002_1)) (fun _ hk => hk.2) _) (fun _ hk => hk.1.1), by repeat (first | (with_reducible first | exact HB.out | apply below_alloc | apply pw_below_drewN | apply below_drew1 | refine below_set ?_ GE222.out | refine below_set ?_ GE230.out) | exact HB.out)⟩

end Go.Proofs.Ytnbhkogjamdfhaa.PAll
