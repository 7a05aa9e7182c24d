/- Written by a program of this session (wip/xp) out of the translation: functions in plain Lean, and proofs that the calls come to these. -/
import Derived.Test.YtfolonajajideaaPAllx0
import Derived.Test.YtfolonajajideaaPAllx7
import Derived.Test.YtfolonajajideaaPAllx10
import Derived.Test.YtfolonajajideaaPAllx11
import Derived.Test.YtfolonajajideaaPAllx12
import Derived.Test.YtfolonajajideaaShort
namespace Go.Proofs.Ytfolonajajideaa.PAll
open Go.RowKit Go.Proofs.YtfolonajajideaaW.PrintWords Go.Proofs.YtfolonajajideaaW.PrintLast Go.Proofs.YtfolonajajideaaW.PrintMore
attribute [local go_sem] max2_int min2_int max_two min_two max_three min_three max_four min_four   -- for this text's walks alone
set_option linter.unusedVariables false
set_option linter.unusedSimpArgs false

/-! ### clinkerlaw06_Made: function 11 -/
mutual
def clinkerlaw06_Made.l0 : Nat → List Int → Int → Int → Int → List (S62) → Bool → Bool → Int → Option ((List (S62)) × Bool × Bool × Int)
 | 0, _, _, _, _, _, _, _, _ => none
 | k + 1, x0, x1, x9, x10, x204000, x204001, x204002, x204003 => if x10 < 40 then (clinkerlaw06_Made.j1 k x0 x1 x9 x10 (decide (x9 < (x0.length : Int))) x204000 x204001 x204002 x204003) else (clinkerlaw06_Made.j1 k x0 x1 x9 x10 false x204000 x204001 x204002 x204003)
def clinkerlaw06_Made.j1 : Nat → List Int → Int → Int → Int → Bool → List (S62) → Bool → Bool → Int → Option ((List (S62)) × Bool × Bool × Int)
 | 0, _, _, _, _, _, _, _, _, _ => none
 | k + 1, x0, x1, x9, x10, x31, x204000, x204001, x204002, x204003 => if x31 = true then (if 0 ≤ x9 then (if x9 < (x0.length : Int) then (if x1 = 0 then (none) else (if x9 ≤ (mn (wrap64 ((wrap64 (x9 + 1)) + (Int.tmod (wrap64 (Int.tdiv (wrap64 (rd x0 x9)) 50)) 8))) (x0.length : Int)) then (if (mn (wrap64 ((wrap64 (x9 + 1)) + (Int.tmod (wrap64 (Int.tdiv (wrap64 (rd x0 x9)) 50)) 8))) (x0.length : Int)) ≤ (x0.length : Int) then ((clinkerlaw06_Page.f k (Int.tmod (wrap64 (Int.tdiv (wrap64 (rd x0 x9)) 7)) 30) ((x0.take ((mn (wrap64 ((wrap64 (x9 + 1)) + (Int.tmod (wrap64 (Int.tdiv (wrap64 (rd x0 x9)) 50)) 8))) (x0.length : Int)) : Int).toNat).drop (x9 : Int).toNat)).bind fun bt206 => (if (Int.tmod (wrap64 (rd x0 x9)) 11) = 0 then (clinkerlaw06_Made.j2 k x0 x1 x9 x10 (wrap64 (rd x0 x9)) (Int.tmod (wrap64 (rd x0 x9)) x1) (mn (wrap64 ((wrap64 (x9 + 1)) + (Int.tmod (wrap64 (Int.tdiv (wrap64 (rd x0 x9)) 50)) 8))) (x0.length : Int)) x204000 x204001 x204002 x204003 bt206.1 bt206.2.1 bt206.2.2 1 (⟨#[120]⟩ : ByteArray) bt206.2.2 0) else (clinkerlaw06_Made.j2 k x0 x1 x9 x10 (wrap64 (rd x0 x9)) (Int.tmod (wrap64 (rd x0 x9)) x1) (mn (wrap64 ((wrap64 (x9 + 1)) + (Int.tmod (wrap64 (Int.tdiv (wrap64 (rd x0 x9)) 50)) 8))) (x0.length : Int)) x204000 x204001 x204002 x204003 bt206.1 bt206.2.1 bt206.2.2 0 (⟨#[]⟩ : ByteArray) (⟨#[]⟩ : ByteArray) 0))) else (none)) else (none))) else (none)) else (none)) else (some (x204000, x204001, x204002, x204003))
def clinkerlaw06_Made.j2 : Nat → List Int → Int → Int → Int → Int → Int → Int → List (S62) → Bool → Bool → Int → Bool → ByteArray → ByteArray → Int → ByteArray → ByteArray → Int → Option ((List (S62)) × Bool × Bool × Int)
 | 0, _, _, _, _, _, _, _, _, _, _, _, _, _, _, _, _, _, _ => none
 | k + 1, x0, x1, x9, x10, x11, x12, x13, x204000, x204001, x204002, x204003, x210000, x210001, x210002, x211000, x211001, x211002, x211003 => if (Int.tmod x11 29) = 0 then ((clinkerref05_Erase.f x204000 x204001 x204002 x204003 x12 0 (⟨#[]⟩ : ByteArray) (⟨#[]⟩ : ByteArray) 0).bind fun bt211 => (if 0 ≤ x12 then (if x12 < (bt211.1.length : Int) then ((clinkerref05_Program.f bt211.1 bt211.2.1 bt211.2.2.1 bt211.2.2.2.1 x12 ((rd_T62 bt211.1 x12).f1) x210000 x210001 x210002 x211000 x211001 x211002 x211003).bind fun bt219 => (if bt219.2.2.2.2 = 1 then (clinkerlaw06_Made.l0 k x0 x1 (mx x13 (wrap64 (x9 + 1))) (wrap64 (x10 + 1)) bt211.1 bt211.2.1 bt211.2.2.1 bt211.2.2.2.1) else (clinkerlaw06_Made.l0 k x0 x1 (mx x13 (wrap64 (x9 + 1))) (wrap64 (x10 + 1)) bt219.1 bt219.2.1 bt219.2.2.1 bt219.2.2.2.1))) else (none)) else (none))) else (if 0 ≤ x12 then (if x12 < (x204000.length : Int) then ((clinkerref05_Program.f x204000 x204001 x204002 x204003 x12 ((rd_T62 x204000 x12).f1) x210000 x210001 x210002 x211000 x211001 x211002 x211003).bind fun bt228 => (if bt228.2.2.2.2 = 1 then (clinkerlaw06_Made.l0 k x0 x1 (mx x13 (wrap64 (x9 + 1))) (wrap64 (x10 + 1)) x204000 x204001 x204002 x204003) else (clinkerlaw06_Made.l0 k x0 x1 (mx x13 (wrap64 (x9 + 1))) (wrap64 (x10 + 1)) bt228.1 bt228.2.1 bt228.2.2.1 bt228.2.2.2.1))) else (none)) else (none))
end
def clinkerlaw06_Made.f (k : Nat) (l0 : List Int) (a1 : Int) (a2 : Int) : Option ((List (S62)) × Bool × Bool × Int) := (clinkerref05_New.f a1 a2 ([] : List Int)).bind fun bt196 => (clinkerlaw06_Made.l0 k l0 a1 0 0 bt196.1 bt196.2.1 bt196.2.2.1 bt196.2.2.2.1)
theorem clinkerlaw06_Made.mono_l : ∀ k, (∀ y0 y1 y2 y3 y4 y5 y6 y7, LeO (clinkerlaw06_Made.l0 k y0 y1 y2 y3 y4 y5 y6 y7) (clinkerlaw06_Made.l0 (k + 1) y0 y1 y2 y3 y4 y5 y6 y7)) ∧ (∀ y0 y1 y2 y3 y4 y5 y6 y7 y8, LeO (clinkerlaw06_Made.j1 k y0 y1 y2 y3 y4 y5 y6 y7 y8) (clinkerlaw06_Made.j1 (k + 1) y0 y1 y2 y3 y4 y5 y6 y7 y8)) ∧ (∀ y0 y1 y2 y3 y4 y5 y6 y7 y8 y9 y10 y11 y12 y13 y14 y15 y16 y17, LeO (clinkerlaw06_Made.j2 k y0 y1 y2 y3 y4 y5 y6 y7 y8 y9 y10 y11 y12 y13 y14 y15 y16 y17) (clinkerlaw06_Made.j2 (k + 1) y0 y1 y2 y3 y4 y5 y6 y7 y8 y9 y10 y11 y12 y13 y14 y15 y16 y17))
 | 0 => ⟨fun _ _ _ _ _ _ _ _ r h => by simp [clinkerlaw06_Made.l0] at h, fun _ _ _ _ _ _ _ _ _ r h => by simp [clinkerlaw06_Made.j1] at h, fun _ _ _ _ _ _ _ _ _ _ _ _ _ _ _ _ _ _ r h => by simp [clinkerlaw06_Made.j2] at h⟩
 | k + 1 => by
  obtain ⟨ih0, ih1, ih2⟩ := clinkerlaw06_Made.mono_l k
  refine ⟨?_, ?_, ?_⟩
  ·
   intro y0 y1 y2 y3 y4 y5 y6 y7
   unfold clinkerlaw06_Made.l0
   repeat' first
   | (with_reducible exact ih0 _ _ _ _ _ _ _ _)
   | (with_reducible exact ih1 _ _ _ _ _ _ _ _ _)
   | (with_reducible exact ih2 _ _ _ _ _ _ _ _ _ _ _ _ _ _ _ _ _ _)
   | (with_reducible exact clinkerlaw06_Page.mono _ _ _)
   | (with_reducible exact LeO.refl _)
   | (with_reducible exact LeO.none _)
   | (with_reducible refine LeO.ite ?_ ?_)
   | (with_reducible refine LeO.bind ?_ (fun _ => ?_))
   | exact ih0 _ _ _ _ _ _ _ _
   | exact ih1 _ _ _ _ _ _ _ _ _
   | exact ih2 _ _ _ _ _ _ _ _ _ _ _ _ _ _ _ _ _ _
   | exact clinkerlaw06_Page.mono _ _ _
   | exact LeO.none _
   | refine LeO.ite ?_ ?_
   | refine LeO.bind ?_ (fun _ => ?_)
  ·
   intro y0 y1 y2 y3 y4 y5 y6 y7 y8
   unfold clinkerlaw06_Made.j1
   repeat' first
   | (with_reducible exact ih0 _ _ _ _ _ _ _ _)
   | (with_reducible exact ih1 _ _ _ _ _ _ _ _ _)
   | (with_reducible exact ih2 _ _ _ _ _ _ _ _ _ _ _ _ _ _ _ _ _ _)
   | (with_reducible exact clinkerlaw06_Page.mono _ _ _)
   | (with_reducible exact LeO.refl _)
   | (with_reducible exact LeO.none _)
   | (with_reducible refine LeO.ite ?_ ?_)
   | (with_reducible refine LeO.bind ?_ (fun _ => ?_))
   | exact ih0 _ _ _ _ _ _ _ _
   | exact ih1 _ _ _ _ _ _ _ _ _
   | exact ih2 _ _ _ _ _ _ _ _ _ _ _ _ _ _ _ _ _ _
   | exact clinkerlaw06_Page.mono _ _ _
   | exact LeO.none _
   | refine LeO.ite ?_ ?_
   | refine LeO.bind ?_ (fun _ => ?_)
  ·
   intro y0 y1 y2 y3 y4 y5 y6 y7 y8 y9 y10 y11 y12 y13 y14 y15 y16 y17
   unfold clinkerlaw06_Made.j2
   repeat' first
   | (with_reducible exact ih0 _ _ _ _ _ _ _ _)
   | (with_reducible exact ih1 _ _ _ _ _ _ _ _ _)
   | (with_reducible exact ih2 _ _ _ _ _ _ _ _ _ _ _ _ _ _ _ _ _ _)
   | (with_reducible exact clinkerlaw06_Page.mono _ _ _)
   | (with_reducible exact LeO.refl _)
   | (with_reducible exact LeO.none _)
   | (with_reducible refine LeO.ite ?_ ?_)
   | (with_reducible refine LeO.bind ?_ (fun _ => ?_))
   | exact ih0 _ _ _ _ _ _ _ _
   | exact ih1 _ _ _ _ _ _ _ _ _
   | exact ih2 _ _ _ _ _ _ _ _ _ _ _ _ _ _ _ _ _ _
   | exact clinkerlaw06_Page.mono _ _ _
   | exact LeO.none _
   | refine LeO.ite ?_ ?_
   | refine LeO.bind ?_ (fun _ => ?_)
theorem clinkerlaw06_Made.mono : ∀ a0 a1 a2 k, LeO (clinkerlaw06_Made.f k a0 a1 a2) (clinkerlaw06_Made.f (k + 1) a0 a1 a2) := by
 intro a0 a1 a2 k
 obtain ⟨ih0, ih1, ih2⟩ := clinkerlaw06_Made.mono_l k
 unfold clinkerlaw06_Made.f
 repeat' first
   | (with_reducible exact ih0 _ _ _ _ _ _ _ _)
   | (with_reducible exact ih1 _ _ _ _ _ _ _ _ _)
   | (with_reducible exact ih2 _ _ _ _ _ _ _ _ _ _ _ _ _ _ _ _ _ _)
   | (with_reducible exact clinkerlaw06_Page.mono _ _ _)
   | (with_reducible exact LeO.refl _)
   | (with_reducible exact LeO.none _)
   | (with_reducible refine LeO.ite ?_ ?_)
   | (with_reducible refine LeO.bind ?_ (fun _ => ?_))
   | exact ih0 _ _ _ _ _ _ _ _
   | exact ih1 _ _ _ _ _ _ _ _ _
   | exact ih2 _ _ _ _ _ _ _ _ _ _ _ _ _ _ _ _ _ _
   | exact clinkerlaw06_Page.mono _ _ _
   | exact LeO.none _
   | refine LeO.ite ?_ ?_
   | refine LeO.bind ?_ (fun _ => ?_)
def clinkerlaw06_Made.T15 : Bool × List (List Nat × List Nat) := (true, [([], []), ([], []), ([], []), ([2], [2]), ([], []), ([3, 4], [3, 4]), ([5], [5]), ([6], [6]), ([], []), ([], []), ([0, 1, 7, 8, 9], [0, 1, 7, 8, 9]), ([10], [10]), ([11], [11]), ([11], [11]), ([], []), ([14, 12, 10, 0, 1, 2, 3, 4, 5, 6, 7, 8, 9, 10, 11, 12, 14], [12, 14]), ([13, 15, 0, 1, 2, 3, 4, 5, 6, 7, 8, 9, 10, 11, 12, 13, 14, 15], [13])])
def clinkerlaw06_Made.B15 : List Nat := [0, 0, 0, 4, 0, 28, 60, 124, 0, 0, 1023, 2047, 4095, 4095, 0, 24575, 65535]
theorem clinkerlaw06_Made.tab15 : rtab .any (opsOf Try.f11 15) = clinkerlaw06_Made.T15 := by kernel_rfl
theorem clinkerlaw06_Made.bits15 : waitsOk clinkerlaw06_Made.T15.2 clinkerlaw06_Made.B15 = true := by kernel_rfl
theorem vaw {W : World} {e base n c g : Nat} {ok : Nat → Prop} {ad : Addr} {xs : List S62} (h : Kd.V k62 e W base ok (.slice (some ad) n c) xs) (j : Int) (h0 : 0 ≤ j) (h1 : j < (xs.length : Int)) (hok : ∀ k, ok k → k ≠ g) : ad.block ≠ g := by
  intro he
  have hn := (Kd.V_at h).1
  have hF := Kd.V_F h
  have hC := hF { W with heap := W.heap.setIfInBounds g (.deferred none) } (fun k hk _ => Array.getElem?_setIfInBounds_ne (Ne.symm (hok k hk)))
  obtain ⟨ad', A0, c0, hA, z0, _⟩ := at_T62 hC j h0 (by omega)
  cases hA
  have hb : (ad.add (j.toNat * 4)).block = g := (add_block _ _).trans he
  unfold World.cell? at z0
  rw [hb] at z0
  by_cases hg : g < W.heap.size
  · simp [hg] at z0
  · simp [hg] at z0
abbrev q0k13 : Array Bool := #[false, false, false, false, false, false, false, false, false, false, false, false, false, false, false, false, false]
abbrev q1k13 : Array Bool := #[true, true, true, true, true, true, true, true, true, true, true, true, true, true, true, false, false]
abbrev q2k13 : Array Bool := #[true, true, true, true, true, true, true, true, true, true, true, false, false, false, false, false, false]
abbrev q3k13 : Array Bool := #[true, true, true, true, true, true, true, true, true, true, false, false, false, false, true, false, false]
abbrev q4k13 : Array Bool := #[true, true, true, true, true, true, true, true, true, true, true, false, false, false, true, false, false]
abbrev q5k13 : Array Bool := #[true, true, true, true, true, true, true, true, true, true, true, true, true, true, true, true, false]
set_option maxHeartbeats 8000000 in
set_option maxRecDepth 100000 in
theorem clinkerlaw06_Made.calls (k : Nat) (A0 : Option Addr) (c0 : Nat) (l0 : List Int) (a1 : Int) (a2 : Int) (r1 : List (S62)) (r2 : Bool) (r3 : Bool) (r4 : Int) (w : World) (hr0 : Kd.C (Kd.int .u16) w A0 l0.length l0) (hc0 : l0.length ≤ c0) (h : clinkerlaw06_Made.f k l0 a1 a2 = some (r1, r2, r3, r4)) :
  Calls Try.prog 11 #[.slice A0 l0.length c0, .int .i64 a1, .int .i64 a2] w fun e w' => ∃ v0_ : Value, e = .returned (.agg #[v0_, .bool r2, .bool r3, .int .i64 r4]) ∧ Kd.V k62 62 w' w.heap.size (fun k_ => (w.heap.size ≤ k_)) v0_ r1 ∧ Below w.heap.size w w' := by
 have hu32 := Try.underlying32
 have hu54 := Try.underlying54
 have hu57 := Try.underlying57
 have HR0 := Aside0.mk hr0
 have HC0 := Aside0.mk hc0
 clear hr0 hc0
 have HB := Aside0.mk (Below.refl w.heap.size w)
 have H : ((clinkerref05_New.f a1 a2 ([] : List Int)).bind fun bt196 => (clinkerlaw06_Made.l0 k l0 a1 0 0 bt196.1 bt196.2.1 bt196.2.2.1 bt196.2.2.2.1)) = some (r1, r2, r3, r4) := h
 clear h
 replace H := Option.bind_eq_some_iff.mp H
 obtain ⟨⟨t196, t199, t200, t201, t202⟩, A40, H⟩ := H
 replace H : (clinkerlaw06_Made.l0 k l0 a1 0 0 t196 t199 t200 t201) = some (r1, r2, r3, r4) := H
 have A4 := Aside0.mk A40
 clear A40
 have H' := Aside0.mk H
 clear H
 go_enter Try.func11, Try.ntmps11
 go_wp2_with (first | ((with_reducible refine gate_dst (N := 6) rfl ?_); (try (refine gate_guard (by rfl) ?_; dsimp only)); refine box_event ?hg (N := 6) ?hd (cs := #[.slice none 0 0, .bool false, .bool false, .int .i64 0]) (t := 32) ?hr ?_; (case hd => rfl); (case hg => rfl); (case hr => first | (go_simp; done) | (go_simp; rfl)); intro gb195 hg w5 hbox hb; have BK195 := Aside0.mk (hbox); have GW195 := Aside0.mk ((bz hg : w.heap.size ≤ gb195)); replace HB := Aside0.mk (bst hb); have GE195 := GW195; clear hb hbox hg) | ((with_reducible refine gate_callee (f := 23) rfl ?_); refine goesL_ (some 21) rfl rfl Try.func23 (by kernel_rfl) rfl #[.int .i64 a1, .int .i64 a2, .slice none 0 0] rfl (by (try simp only [List.map_toArray, List.map_cons, List.map_nil]); first | done | rfl | (simp only [List.length_drop, List.length_take]; rfl)) ?_; (refine (clinkerref05_New.calls a1 a2 _ _ ([] : List Int) t196 t199 t200 t201 t202 _ ?side1 ?side2 A4.out).mono ?_); (case side1 => exact Kd.C_nil _ _); (case side2 => exact Nat.le_refl _); rintro e w6 ⟨v197, rfl, ho0, hb⟩; refine ⟨_, rfl, ?_⟩; have HO198 := Aside0.mk (Kd.V_lower (Kd.V_mono (ok' := fun k_ => (w.heap.size ≤ k_) ∧ k_ ≠ gb195) ho0 (fun k_ hk_ => ⟨(Nat.le_trans bsz hk_), (Kd.freshB (g := gb195) (o := .cells #[.slice none 0 0, .bool false, .bool false, .int .i64 0] 32 (0, 0)) (mB BK195.out) k_ hk_)⟩)) bsz); replace BK195 := Aside0.mk (bb BK195.out hb); replace HB := Aside0.mk (bst hb); (try clear hb); (try clear hb2); (try clear hk); (try clear hi); (try clear ho0)) | ((with_reducible refine gate_dst (N := 7) rfl ?_); (try (refine gate_guard (by rfl) ?_; dsimp only)); refine box_event ?hg (N := 7) ?hd (cs := #[.slice none 0 0, .bool false, .bool false, .int .i64 0]) (t := 32) ?hr ?_; (case hd => rfl); (case hg => rfl); (case hr => first | (go_simp; done) | (go_simp; rfl)); intro gb203 hg w7 hbox hb; replace HO198 := Aside0.mk (Kd.V_below (Kd.V_elderB (mV HO198.out) gb203 (Nat.le_of_eq hg.symm)) hb); have BK203 := Aside0.mk (hbox); have GW203 := Aside0.mk ((bz hg : w.heap.size ≤ gb203)); replace HB := Aside0.mk (bst hb); have GE203 := GW203; have NB195_203 := Aside0.mk ((bl BK195.out hg : gb195 ≠ gb203)); replace BK195 := Aside0.mk (bb BK195.out hb); have NB203_195 := Aside0.mk NB195_203.out.symm; clear hb hbox hg; obtain ⟨Ao8, co8, eo8⟩ := Kd.V_slice HO198.out; subst eo8; have hnb9 := NB203_195.out; have hnc9 := NB195_203.out; obtain ⟨hcz10_0, hcz10_1, hcz10_2, hcz10_3, hfz10_0, hfz10_1, hfz10_2, hfz10_3⟩ := kc4 BK203.out))
 go_loopg [9, 10] k (fun kq v9 v10 w' => ∃ (x9_1 : Int) (x10_1 : Int) (x204000_1 : List (S62)) (x204001_1 : Bool) (x204002_1 : Bool) (x204003_1 : Int) (u204000 : Value), v9 = .int .i64 x9_1 ∧ v10 = .int .i64 x10_1 ∧ Aside0 (clinkerlaw06_Made.l0 kq l0 a1 x9_1 x10_1 x204000_1 x204001_1 x204002_1 x204003_1 = some (r1, r2, r3, r4)) ∧ Aside0 (kq ≤ k) ∧ Aside0 (Kd.V k62 62 w' w.heap.size (fun k_ => (w.heap.size ≤ k_) ∧ k_ ≠ gb195 ∧ k_ ≠ gb203) u204000 x204000_1) ∧ Aside0 (w'.heap[gb195]? = some (.cells #[(.slice none 0 0), .bool false, .bool false, .int .i64 0] 32 (0, 0))) ∧ Aside0 (w'.heap[gb203]? = some (.cells #[u204000, .bool x204001_1, .bool x204002_1, .int .i64 x204003_1] 32 (0, 0))) ∧ Aside0 (Below w.heap.size w w'))
 case atStart => exact ⟨(0), (0), (t196), (t199), (t200), (t201), (.slice Ao8 t196.length co8), (by first | rfl | (simp; done) | (simp [*]; done)), (by first | rfl | (simp; done) | (simp [*]; done)), H', ⟨Nat.le_refl _⟩, ⟨by (with_reducible repeat (first | apply vA | apply vN | apply vD)); exact Kd.V_mono (Kd.V_far (p := ⟨gb203, 3, none⟩) (Kd.V_far (p := ⟨gb203, 2, none⟩) (Kd.V_far (p := ⟨gb203, 1, none⟩) (Kd.V_far (p := ⟨gb203, 0, none⟩) (Kd.V_mono HO198.out (fun k_ hk => (⟨hk, hk.2⟩ : _ ∧ k_ ≠ gb203))) (fun _ hk => hk.2) _) (fun _ hk => hk.2) (.bool t199)) (fun _ hk => hk.2) (.bool t200)) (fun _ hk => hk.2) _) (fun _ hk => ⟨hk.1.1.1, ⟨hk.1.1.2, hk.1.2⟩⟩)⟩, ⟨by (with_reducible repeat (first | apply bN | apply bD | apply bA)); refine blk_far ?_ NB195_203.out _; (with_reducible repeat (first | apply bN | apply bD | apply bA)); refine blk_far ?_ NB195_203.out _; (with_reducible repeat (first | apply bN | apply bD | apply bA)); refine blk_far ?_ NB195_203.out _; (with_reducible repeat (first | apply bN | apply bD | apply bA)); refine blk_far ?_ NB195_203.out _; (with_reducible repeat (first | apply bN | apply bD | apply bA)); exact BK195.out⟩, ⟨by (with_reducible repeat (first | apply bN | apply bD | apply bA)); refine blk_put (cs := #[.slice Ao8 t196.length co8, .bool t199, .bool t200, .int .i64 0]) ?_ 3 _ rfl; (with_reducible repeat (first | apply bN | apply bD | apply bA)); refine blk_put (cs := #[.slice Ao8 t196.length co8, .bool t199, .bool false, .int .i64 0]) ?_ 2 _ rfl; (with_reducible repeat (first | apply bN | apply bD | apply bA)); refine blk_put (cs := #[.slice Ao8 t196.length co8, .bool false, .bool false, .int .i64 0]) ?_ 1 _ rfl; (with_reducible repeat (first | apply bN | apply bD | apply bA)); refine blk_put (cs := #[.slice none 0 0, .bool false, .bool false, .int .i64 0]) ?_ 0 _ rfl; (with_reducible repeat (first | apply bN | apply bD | apply bA)); exact BK203.out⟩, ⟨mH⟩⟩
 case round =>
  clear H'
  try clear c1
  try clear c2
  try clear p2
  try clear c9
  try clear hcz10_0
  try clear hcz10_1
  try clear hcz10_2
  try clear hcz10_3
  try clear hfz10_0
  try clear hfz10_1
  try clear hfz10_2
  try clear hfz10_3
  obtain ⟨x9_1, x10_1, x204000_1, x204001_1, x204002_1, x204003_1, u204000, rfl, rfl, HA, HK1, HO_204000, BK195, BK203, HB⟩ := hrel
  cases gk with
  | zero => exact absurd HA.out (by simp [clinkerlaw06_Made.l0])
  | succ k1 =>
   have H := HA.out
   clear HA
   simp only [clinkerlaw06_Made.l0] at H
   have HC11 := Aside0.mk H
   clear H
   go_upto_region 4 with (fail)
   go_cut [31] (fun v31 wc => ∃ (kq : Nat) (x31_10 : Bool), v31 = .bool x31_10 ∧ Aside0 (clinkerlaw06_Made.j1 kq l0 a1 x9_1 x10_1 x31_10 x204000_1 x204001_1 x204002_1 x204003_1 = some (r1, r2, r3, r4)) ∧ Aside0 (kq ≤ k1) ∧ Aside0 (Kd.V k62 62 wc w.heap.size (fun k_ => (w.heap.size ≤ k_) ∧ k_ ≠ gb195 ∧ k_ ≠ gb203) u204000 x204000_1) ∧ Aside0 (wc.heap[gb195]? = some (.cells #[(.slice none 0 0), .bool false, .bool false, .int .i64 0] 32 (0, 0))) ∧ Aside0 (wc.heap[gb203]? = some (.cells #[u204000, .bool x204001_1, .bool x204002_1, .int .i64 x204003_1] 32 (0, 0))) ∧ Aside0 (Below w.heap.size w wc))
   case first =>
    have H := HC11.out
    clear HC11
    by_cases c12 : x10_1 < 40
    case neg =>
     rw [if_neg c12] at H
     have c12b0 : decide (x10_1 < 40) = false := decide_eq_false c12
     clear c12
     (first | rw [c12b0] | (simp only [i64_w, i32_w]; rw [c12b0]) | skip)
     have H' := Aside0.mk H
     clear H
     go_wp2
     go_meet
     case rel => exact ⟨_, (false), (by first | rfl | (simp; done) | (simp [*]; done)), H', ⟨by have := HK1.out; first | omega | exact Nat.le_refl _⟩, ⟨mV HO_204000.out⟩, ⟨mB BK195.out⟩, ⟨mB BK203.out⟩, ⟨mH⟩⟩
    rw [if_pos c12] at H
    have c12b0 : decide (x10_1 < 40) = true := decide_eq_true c12
    clear c12
    (first | rw [c12b0] | (simp only [i64_w, i32_w]; rw [c12b0]) | skip)
    have H' := Aside0.mk H
    clear H
    go_wp2
    go_meet
    case rel => exact ⟨_, (decide (x9_1 < (l0.length : Int))), (by first | rfl | (simp; done) | (simp [*]; done)), H', ⟨by have := HK1.out; first | omega | exact Nat.le_refl _⟩, ⟨mV HO_204000.out⟩, ⟨mB BK195.out⟩, ⟨mB BK203.out⟩, ⟨mH⟩⟩
   case rest =>
    clear HC11
    try clear c1
    try clear c2
    try clear p2
    try clear c9
    try clear c11
    try clear c12
    try clear c12b0
    try clear hcz10_0
    try clear hcz10_1
    try clear hcz10_2
    try clear hcz10_3
    try clear hfz10_0
    try clear hfz10_1
    try clear hfz10_2
    try clear hfz10_3
    try clear p2
    obtain ⟨kq, x31_10, rfl, HA, HJ10, HO_204000, BK195, BK203, HB⟩ := hcut
    cases kq with
    | zero => exact absurd HA.out (by simp [clinkerlaw06_Made.j1])
    | succ kj10 =>
     have H := HA.out
     clear HA
     simp only [clinkerlaw06_Made.j1] at H
     by_cases c13 : x31_10 = true
     case neg =>
      replace c13 := Bool.eq_false_iff.mpr c13
      subst c13
      have H1 : (some (x204000_1, x204001_1, x204002_1, x204003_1)) = some (r1, r2, r3, r4) := by rw [if_neg (show ¬ (false = true) by decide)] at H; exact H
      clear H
      have H := H1
      clear H1
      simp only [Option.some.injEq, Prod.mk.injEq] at H
      obtain ⟨rfl, rfl, rfl, rfl⟩ := H
      have hnb129 := NB203_195.out
      have hnc129 := NB195_203.out
      obtain ⟨hcz130_0, hcz130_1, hcz130_2, hcz130_3, hfz130_0, hfz130_1, hfz130_2, hfz130_3⟩ := kc4 BK203.out
      obtain ⟨Ao131, co131, eo131⟩ := Kd.V_slice HO_204000.out
      subst eo131
      obtain ⟨hcz132_0, hcz132_1, hcz132_2, hcz132_3, hfz132_0, hfz132_1, hfz132_2, hfz132_3⟩ := kc4 BK195.out
      go_wp2
      refine bodyPost_ret (results_cell_row rfl _ _ gb195 32 #[.slice Ao131 x204000_1.length co131, .bool x204001_1, .bool x204002_1, .int .i64 x204003_1] (0, 0) _ rfl (by (with_reducible repeat (first | apply bN | apply bD | apply bA)); refine blk_put (cs := #[.slice Ao131 x204000_1.length co131, .bool x204001_1, .bool x204002_1, .int .i64 0]) ?_ 3 _ rfl; (with_reducible repeat (first | apply bN | apply bD | apply bA)); refine blk_put (cs := #[.slice Ao131 x204000_1.length co131, .bool x204001_1, .bool false, .int .i64 0]) ?_ 2 _ rfl; (with_reducible repeat (first | apply bN | apply bD | apply bA)); refine blk_put (cs := #[.slice Ao131 x204000_1.length co131, .bool false, .bool false, .int .i64 0]) ?_ 1 _ rfl; (with_reducible repeat (first | apply bN | apply bD | apply bA)); refine blk_put (cs := #[.slice none 0 0, .bool false, .bool false, .int .i64 0]) ?_ 0 _ rfl; (with_reducible repeat (first | apply bN | apply bD | apply bA)); exact BK195.out) Try.underlying32 rfl (by kernel_rfl)) rfl ?_
      exact ⟨_, by first | rfl | (simp [errW_none, errW_some] <;> rfl) | (simp [*, errW_none, errW_some] <;> rfl), by (with_reducible repeat (first | apply vA | apply vN | apply vD)); exact Kd.V_mono (Kd.V_far (p := ⟨gb195, 3, none⟩) (Kd.V_far (p := ⟨gb195, 2, none⟩) (Kd.V_far (p := ⟨gb195, 1, none⟩) (Kd.V_far (p := ⟨gb195, 0, none⟩) (Kd.V_mono HO_204000.out (fun k_ hk => (⟨hk, hk.2.1⟩ : _ ∧ k_ ≠ gb195))) (fun _ hk => hk.2) _) (fun _ hk => hk.2) (.bool x204001_1)) (fun _ hk => hk.2) (.bool x204002_1)) (fun _ hk => hk.2) _) (fun _ hk => hk.1.1), by repeat (first | (with_reducible first | exact HB.out | apply lA | apply lN | apply lD | refine lS ?_ GE195.out | refine lS ?_ GE203.out) | exact HB.out)⟩
     subst c13
     have H1 : (if 0 ≤ x9_1 then (if x9_1 < (l0.length : Int) then (if a1 = 0 then (none) else (if x9_1 ≤ (mn (wrap64 ((wrap64 (x9_1 + 1)) + (Int.tmod (wrap64 (Int.tdiv (wrap64 (rd l0 x9_1)) 50)) 8))) (l0.length : Int)) then (if (mn (wrap64 ((wrap64 (x9_1 + 1)) + (Int.tmod (wrap64 (Int.tdiv (wrap64 (rd l0 x9_1)) 50)) 8))) (l0.length : Int)) ≤ (l0.length : Int) then ((clinkerlaw06_Page.f kj10 (Int.tmod (wrap64 (Int.tdiv (wrap64 (rd l0 x9_1)) 7)) 30) ((l0.take ((mn (wrap64 ((wrap64 (x9_1 + 1)) + (Int.tmod (wrap64 (Int.tdiv (wrap64 (rd l0 x9_1)) 50)) 8))) (l0.length : Int)) : Int).toNat).drop (x9_1 : Int).toNat)).bind fun bt206 => (if (Int.tmod (wrap64 (rd l0 x9_1)) 11) = 0 then (clinkerlaw06_Made.j2 kj10 l0 a1 x9_1 x10_1 (wrap64 (rd l0 x9_1)) (Int.tmod (wrap64 (rd l0 x9_1)) a1) (mn (wrap64 ((wrap64 (x9_1 + 1)) + (Int.tmod (wrap64 (Int.tdiv (wrap64 (rd l0 x9_1)) 50)) 8))) (l0.length : Int)) x204000_1 x204001_1 x204002_1 x204003_1 bt206.1 bt206.2.1 bt206.2.2 1 (⟨#[120]⟩ : ByteArray) bt206.2.2 0) else (clinkerlaw06_Made.j2 kj10 l0 a1 x9_1 x10_1 (wrap64 (rd l0 x9_1)) (Int.tmod (wrap64 (rd l0 x9_1)) a1) (mn (wrap64 ((wrap64 (x9_1 + 1)) + (Int.tmod (wrap64 (Int.tdiv (wrap64 (rd l0 x9_1)) 50)) 8))) (l0.length : Int)) x204000_1 x204001_1 x204002_1 x204003_1 bt206.1 bt206.2.1 bt206.2.2 0 (⟨#[]⟩ : ByteArray) (⟨#[]⟩ : ByteArray) 0))) else (none)) else (none))) else (none)) else (none)) = some (r1, r2, r3, r4) := by rw [if_pos rfl] at H; exact H
     clear H
     have H := H1
     clear H1
     by_cases c14 : 0 ≤ x9_1
     case neg =>
      rw [if_neg c14] at H
      exact absurd H (by simp)
     rw [if_pos c14] at H
     have c14b0 : decide (0 ≤ x9_1) = true := decide_eq_true c14
     clear c14
     by_cases c15 : x9_1 < (l0.length : Int)
     case neg =>
      rw [if_neg c15] at H
      exact absurd H (by simp)
     rw [if_pos c15] at H
     have c15b0 : decide (x9_1 < (l0.length : Int)) = true := decide_eq_true c15
     clear c15
     by_cases c16 : a1 = 0
     case pos =>
      rw [if_pos c16] at H
      exact absurd H (by simp)
     rw [if_neg c16] at H
     have c16b0 : (a1 == 0) = false := beq_eq_false_iff_ne.mpr c16
     have c16b1 : (a1 != 0) = true := bne_iff_ne.mpr c16
     obtain ⟨ji17, hji17⟩ : ∃ j_ : Int, (mn (wrap64 ((wrap64 (x9_1 + 1)) + (Int.tmod (wrap64 (Int.tdiv (wrap64 (rd l0 x9_1)) 50)) 8))) (l0.length : Int)) = j_ := ⟨_, rfl⟩
     replace H : (if x9_1 ≤ (ji17) then (if (ji17) ≤ (l0.length : Int) then ((clinkerlaw06_Page.f kj10 (Int.tmod (wrap64 (Int.tdiv (wrap64 (rd l0 x9_1)) 7)) 30) ((l0.take ((ji17) : Int).toNat).drop (x9_1 : Int).toNat)).bind fun bt206 => (if (Int.tmod (wrap64 (rd l0 x9_1)) 11) = 0 then (clinkerlaw06_Made.j2 kj10 l0 a1 x9_1 x10_1 (wrap64 (rd l0 x9_1)) (Int.tmod (wrap64 (rd l0 x9_1)) a1) ji17 x204000_1 x204001_1 x204002_1 x204003_1 bt206.1 bt206.2.1 bt206.2.2 1 (⟨#[120]⟩ : ByteArray) bt206.2.2 0) else (clinkerlaw06_Made.j2 kj10 l0 a1 x9_1 x10_1 (wrap64 (rd l0 x9_1)) (Int.tmod (wrap64 (rd l0 x9_1)) a1) ji17 x204000_1 x204001_1 x204002_1 x204003_1 bt206.1 bt206.2.1 bt206.2.2 0 (⟨#[]⟩ : ByteArray) (⟨#[]⟩ : ByteArray) 0))) else (none)) else (none)) = some (r1, r2, r3, r4) := by first | (rw [hji17] at H; exact H) | (simp only [hji17] at H ⊢; exact H)
     have hji17_ : (if (l0.length : Int) < (wrap64 ((wrap64 (x9_1 + 1)) + (Int.tmod (wrap64 (Int.tdiv (wrap64 (rd l0 x9_1)) 50)) 8))) then (l0.length : Int) else (wrap64 ((wrap64 (x9_1 + 1)) + (Int.tmod (wrap64 (Int.tdiv (wrap64 (rd l0 x9_1)) 50)) 8)))) = ji17 := hji17
     have c18b0 := eq_true (of_decide_eq_true (by first | (with_reducible assumption) | assumption) : 0 ≤ x9_1)
     by_cases c19 : x9_1 ≤ (ji17)
     case neg =>
      rw [if_neg c19] at H
      exact absurd H (by simp)
     rw [if_pos c19] at H
     have c19b0 := eq_true c19
     have c19b1 : decide (x9_1 ≤ (ji17)) = true := decide_eq_true c19
     clear c19
     by_cases c20 : (ji17) ≤ (l0.length : Int)
     case neg =>
      rw [if_neg c20] at H
      exact absurd H (by simp)
     rw [if_pos c20] at H
     have c20b0 := eq_true c20
     have c20b1 : decide ((ji17) ≤ (l0.length : Int)) = true := decide_eq_true c20
     clear c20
     replace H := Option.bind_eq_some_iff.mp H
     obtain ⟨⟨t206, t207, t208⟩, A210, H⟩ := H
     replace H : (if (Int.tmod (wrap64 (rd l0 x9_1)) 11) = 0 then (clinkerlaw06_Made.j2 kj10 l0 a1 x9_1 x10_1 (wrap64 (rd l0 x9_1)) (Int.tmod (wrap64 (rd l0 x9_1)) a1) ji17 x204000_1 x204001_1 x204002_1 x204003_1 t206 t207 t208 1 (⟨#[120]⟩ : ByteArray) t208 0) else (clinkerlaw06_Made.j2 kj10 l0 a1 x9_1 x10_1 (wrap64 (rd l0 x9_1)) (Int.tmod (wrap64 (rd l0 x9_1)) a1) ji17 x204000_1 x204001_1 x204002_1 x204003_1 t206 t207 t208 0 (⟨#[]⟩ : ByteArray) (⟨#[]⟩ : ByteArray) 0)) = some (r1, r2, r3, r4) := H
     have A21 := Aside0.mk A210
     clear A210
     have HC22 := Aside0.mk H
     clear H
     have p204 : 0 ≤ (x9_1 : Int) := of_decide_eq_true (by first | (with_reducible assumption) | assumption)
     have q204 : x9_1 < (l0.length : Int) := of_decide_eq_true (by first | (with_reducible assumption) | assumption)
     obtain ⟨ad204, e204, hx204_0⟩ := Kd.at_int HR0.out x9_1 p204 q204
     cases e204
     replace hx204_0 := (HB.out.cell (World.block_lt_of_cell? w _ hx204_0)).trans hx204_0
     replace p204 := eq_true p204
     replace q204 := eq_true q204
     obtain ⟨i023, hi023, _, hsz23, _⟩ := info_parts info52
     obtain ⟨A23, hcut23, hA23, hC23⟩ := print_mid_of (P := Try.prog) (Value.int .u16) 0 29 52 .i64 .i64 Try.underlying29 hi023 hsz23 (some ad204) c0 l0 x9_1 (ji17) (of_decide_eq_true (by first | (with_reducible assumption) | assumption)) (by first | omega | exact of_decide_eq_true (by first | (with_reducible assumption) | assumption)) (of_decide_eq_true (by first | (with_reducible assumption) | assumption)) HC0.out
     have HR205 := Aside0.mk (Kd.C_of_reads (h1 := fun _ => rfl) (hA23 _ (Kd.reads_of_C HR0.out)))
     have HC205 := Aside0.mk hC23
     clear hA23 hC23 hi023 hsz23
     go_upto_if 62 with (first | ((with_reducible refine gate_callee (f := 24) rfl ?_); refine goesL_ (some 58) rfl rfl Try.func24 (by kernel_rfl) rfl #[.int .i64 (Int.tmod (wrap64 (Int.tdiv (wrap64 (rd l0 x9_1)) 7)) 30), .slice A23 ((l0.take ((ji17) : Int).toNat).drop (x9_1 : Int).toNat).length (c0 - x9_1.toNat)] rfl (by (try simp only [List.map_toArray, List.map_cons, List.map_nil]); first | done | (rw [show ((l0.take ((ji17) : Int).toNat).drop (x9_1 : Int).toNat).length = ((ji17).toNat - x9_1.toNat) from (by rw [List.length_drop, List.length_take]; have h_ : ((ji17) : Int) ≤ (l0.length : Int) := of_decide_eq_true (by first | (with_reducible assumption) | assumption); omega)] <;> rfl) | (simp only [hji17]; rfl) | rfl | (simp only [List.length_drop, List.length_take]; rfl)) ?_; (with_reducible refine (clinkerlaw06_Page.calls kj10 (Int.tmod (wrap64 (Int.tdiv (wrap64 (rd l0 x9_1)) 7)) 30) _ _ ((l0.take ((ji17) : Int).toNat).drop (x9_1 : Int).toNat) t206 t207 t208 _ ?side1 ?side2 A21.out).mono ?_); (case side1 => repeat (first | exact (Kd.C_below HR205.out HB.out) | (with_reducible refine Kd.C_alloc ?_ _) | (with_reducible refine Kd.C_drewN ?_ _) | (with_reducible refine Kd.C_drew ?_))); (case side2 => exact HC205.out); rintro e w24 ⟨rfl, hb⟩; refine ⟨_, rfl, ?_⟩; replace HO_204000 := Aside0.mk (Kd.V_below (mV HO_204000.out) hb); replace BK195 := Aside0.mk (bb BK195.out hb); replace BK203 := Aside0.mk (bb BK203.out hb); replace HB := Aside0.mk (bst hb); (try clear hb); (try clear hb2); (try clear hk); (try clear hi)) | ((with_reducible refine gate_dst (N := 14) rfl ?_); (try (refine gate_guard (by rfl) ?_; dsimp only)); refine box_event ?hg (N := 14) ?hd (cs := #[.bool false, .string (⟨#[]⟩ : ByteArray), .string (⟨#[]⟩ : ByteArray)]) (t := 54) ?hr ?_; (case hd => rfl); (case hg => rfl); (case hr => first | (go_simp; done) | (go_simp; rfl)); intro gb209 hg w25 hbox hb; replace HO_204000 := Aside0.mk (Kd.V_below (Kd.V_elderB (mV HO_204000.out) gb209 (Nat.le_of_eq hg.symm)) hb); have BK209 := Aside0.mk (hbox); have GW209 := Aside0.mk ((bz hg : w.heap.size ≤ gb209)); replace HB := Aside0.mk (bst hb); have GE209 := GW209; have NB195_209 := Aside0.mk ((bl BK195.out hg : gb195 ≠ gb209)); replace BK195 := Aside0.mk (bb BK195.out hb); have NB209_195 := Aside0.mk NB195_209.out.symm; have NB203_209 := Aside0.mk ((bl BK203.out hg : gb203 ≠ gb209)); replace BK203 := Aside0.mk (bb BK203.out hb); have NB209_203 := Aside0.mk NB203_209.out.symm; clear hb hbox hg; have hnb26 := NB209_195.out; have hnc26 := NB195_209.out; have hnb27 := NB209_203.out; have hnc27 := NB203_209.out; obtain ⟨hcz28_0, hcz28_1, hcz28_2, hfz28_0, hfz28_1, hfz28_2⟩ := kc3 BK209.out) | ((with_reducible refine gate_dst (N := 15) rfl ?_); (try (refine gate_guard (by rfl) ?_; dsimp only)); refine box_event ?hg (N := 15) ?hd (cs := #[.int .i64 0, .string (⟨#[]⟩ : ByteArray), .string (⟨#[]⟩ : ByteArray), .int .i64 0]) (t := 57) ?hr ?_; (case hd => rfl); (case hg => rfl); (case hr => first | (go_simp; done) | (go_simp; rfl)); intro gb210 hg w29 hbox hb; replace HO_204000 := Aside0.mk (Kd.V_below (Kd.V_elderB (by (with_reducible repeat (first | apply vA | apply vN | apply vD)); exact (Kd.V_mono (Kd.V_far (p := ⟨gb209, 2, none⟩) (Kd.V_far (p := ⟨gb209, 1, none⟩) (Kd.V_far (p := ⟨gb209, 0, none⟩) (Kd.V_mono HO_204000.out (fun k_ hk => (⟨hk, hk.2⟩ : _ ∧ k_ ≠ gb209))) (fun _ hk => hk.2) (.bool t206)) (fun _ hk => hk.2) (.string t207)) (fun _ hk => hk.2) (.string t208)) (fun _ h_ => h_.1))) gb210 (Nat.le_of_eq hg.symm)) hb); have BK210 := Aside0.mk (hbox); have GW210 := Aside0.mk ((bz hg : w.heap.size ≤ gb210)); replace HB := Aside0.mk (bst hb); have GE210 := GW210; have NB195_210 := Aside0.mk ((by rw [hg]; exact Nat.ne_of_lt (blk_lt (g := gb195) (o := .cells #[.slice none 0 0, .bool false, .bool false, .int .i64 0] 32 (0, 0)) (by (with_reducible repeat (first | apply bN | apply bD | apply bA)); refine blk_far ?_ NB195_209.out _; (with_reducible repeat (first | apply bN | apply bD | apply bA)); refine blk_far ?_ NB195_209.out _; (with_reducible repeat (first | apply bN | apply bD | apply bA)); refine blk_far ?_ NB195_209.out _; (with_reducible repeat (first | apply bN | apply bD | apply bA)); exact BK195.out)) : gb195 ≠ gb210)); replace BK195 := Aside0.mk (blk_below (g := gb195) (o := .cells #[.slice none 0 0, .bool false, .bool false, .int .i64 0] 32 (0, 0)) (by (with_reducible repeat (first | apply bN | apply bD | apply bA)); refine blk_far ?_ NB195_209.out _; (with_reducible repeat (first | apply bN | apply bD | apply bA)); refine blk_far ?_ NB195_209.out _; (with_reducible repeat (first | apply bN | apply bD | apply bA)); refine blk_far ?_ NB195_209.out _; (with_reducible repeat (first | apply bN | apply bD | apply bA)); exact BK195.out) hb); have NB210_195 := Aside0.mk NB195_210.out.symm; have NB203_210 := Aside0.mk ((by rw [hg]; exact Nat.ne_of_lt (blk_lt (g := gb203) (o := .cells #[u204000, .bool x204001_1, .bool x204002_1, .int .i64 x204003_1] 32 (0, 0)) (by (with_reducible repeat (first | apply bN | apply bD | apply bA)); refine blk_far ?_ NB203_209.out _; (with_reducible repeat (first | apply bN | apply bD | apply bA)); refine blk_far ?_ NB203_209.out _; (with_reducible repeat (first | apply bN | apply bD | apply bA)); refine blk_far ?_ NB203_209.out _; (with_reducible repeat (first | apply bN | apply bD | apply bA)); exact BK203.out)) : gb203 ≠ gb210)); replace BK203 := Aside0.mk (blk_below (g := gb203) (o := .cells #[u204000, .bool x204001_1, .bool x204002_1, .int .i64 x204003_1] 32 (0, 0)) (by (with_reducible repeat (first | apply bN | apply bD | apply bA)); refine blk_far ?_ NB203_209.out _; (with_reducible repeat (first | apply bN | apply bD | apply bA)); refine blk_far ?_ NB203_209.out _; (with_reducible repeat (first | apply bN | apply bD | apply bA)); refine blk_far ?_ NB203_209.out _; (with_reducible repeat (first | apply bN | apply bD | apply bA)); exact BK203.out) hb); have NB210_203 := Aside0.mk NB203_210.out.symm; have NB209_210 := Aside0.mk ((by rw [hg]; exact Nat.ne_of_lt (blk_lt (g := gb209) (o := .cells #[.bool t206, .string t207, .string t208] 54 (0, 0)) (by (with_reducible repeat (first | apply bN | apply bD | apply bA)); refine blk_put (cs := #[.bool t206, .string t207, .string (⟨#[]⟩ : ByteArray)]) ?_ 2 _ rfl; (with_reducible repeat (first | apply bN | apply bD | apply bA)); refine blk_put (cs := #[.bool t206, .string (⟨#[]⟩ : ByteArray), .string (⟨#[]⟩ : ByteArray)]) ?_ 1 _ rfl; (with_reducible repeat (first | apply bN | apply bD | apply bA)); refine blk_put (cs := #[.bool false, .string (⟨#[]⟩ : ByteArray), .string (⟨#[]⟩ : ByteArray)]) ?_ 0 _ rfl; (with_reducible repeat (first | apply bN | apply bD | apply bA)); exact BK209.out)) : gb209 ≠ gb210)); replace BK209 := Aside0.mk (blk_below (g := gb209) (o := .cells #[.bool t206, .string t207, .string t208] 54 (0, 0)) (by (with_reducible repeat (first | apply bN | apply bD | apply bA)); refine blk_put (cs := #[.bool t206, .string t207, .string (⟨#[]⟩ : ByteArray)]) ?_ 2 _ rfl; (with_reducible repeat (first | apply bN | apply bD | apply bA)); refine blk_put (cs := #[.bool t206, .string (⟨#[]⟩ : ByteArray), .string (⟨#[]⟩ : ByteArray)]) ?_ 1 _ rfl; (with_reducible repeat (first | apply bN | apply bD | apply bA)); refine blk_put (cs := #[.bool false, .string (⟨#[]⟩ : ByteArray), .string (⟨#[]⟩ : ByteArray)]) ?_ 0 _ rfl; (with_reducible repeat (first | apply bN | apply bD | apply bA)); exact BK209.out) hb); have NB210_209 := Aside0.mk NB209_210.out.symm; clear hb hbox hg; have hnb30 := NB210_195.out; have hnc30 := NB195_210.out; have hnb31 := NB210_203.out; have hnc31 := NB203_210.out; have hnb32 := NB210_209.out; have hnc32 := NB209_210.out; obtain ⟨hcz33_0, hcz33_1, hcz33_2, hcz33_3, hfz33_0, hfz33_1, hfz33_2, hfz33_3⟩ := kc4 BK210.out))
     (try simp only [Act.put, List.setIfInBounds_toArray, List.set_cons_zero, List.set_cons_succ])
     go_cut [] (fun wc => ∃ (kq : Nat) (x211000_21 : Int) (x211001_21 : ByteArray) (x211002_21 : ByteArray) (x211003_21 : Int), Aside0 (clinkerlaw06_Made.j2 kq l0 a1 x9_1 x10_1 (wrap64 (rd l0 x9_1)) (Int.tmod (wrap64 (rd l0 x9_1)) a1) ji17 x204000_1 x204001_1 x204002_1 x204003_1 t206 t207 t208 x211000_21 x211001_21 x211002_21 x211003_21 = some (r1, r2, r3, r4)) ∧ Aside0 (kq ≤ kj10) ∧ Aside0 (Kd.V k62 62 wc w.heap.size (fun k_ => (w.heap.size ≤ k_) ∧ k_ ≠ gb195 ∧ k_ ≠ gb203 ∧ k_ ≠ gb209 ∧ k_ ≠ gb210) u204000 x204000_1) ∧ Aside0 (wc.heap[gb195]? = some (.cells #[(.slice none 0 0), .bool false, .bool false, .int .i64 0] 32 (0, 0))) ∧ Aside0 (wc.heap[gb203]? = some (.cells #[u204000, .bool x204001_1, .bool x204002_1, .int .i64 x204003_1] 32 (0, 0))) ∧ Aside0 (wc.heap[gb209]? = some (.cells #[.bool t206, .string t207, .string t208] 54 (0, 0))) ∧ Aside0 (wc.heap[gb210]? = some (.cells #[.int .i64 x211000_21, .string x211001_21, .string x211002_21, .int .i64 x211003_21] 57 (0, 0))) ∧ Aside0 (Below w.heap.size w wc))
     case first =>
      have H := HC22.out
      clear HC22
      by_cases c34 : (Int.tmod (wrap64 (rd l0 x9_1)) 11) = 0
      case neg =>
       rw [if_neg c34] at H
       have c34b0 : ((Int.tmod (wrap64 (rd l0 x9_1)) 11) == 0) = false := beq_eq_false_iff_ne.mpr c34
       have c34b1 : ((Int.tmod (wrap64 (rd l0 x9_1)) 11) != 0) = true := bne_iff_ne.mpr c34
       (first | rw [c34b0] | (simp only [i64_w, i32_w]; rw [c34b0]) | skip)
       have H' := Aside0.mk H
       clear H
       go_wp2
       go_meet
       case rel => exact ⟨_, (0), ((⟨#[]⟩ : ByteArray)), ((⟨#[]⟩ : ByteArray)), (0), H', ⟨by have := HK1.out; have := HJ10.out; first | omega | exact Nat.le_refl _⟩, ⟨by (with_reducible repeat (first | apply vA | apply vN | apply vD)); exact Kd.V_mono (Kd.V_far (p := ⟨gb210, 3, none⟩) (Kd.V_far (p := ⟨gb210, 2, none⟩) (Kd.V_far (p := ⟨gb210, 1, none⟩) (Kd.V_far (p := ⟨gb210, 0, none⟩) (Kd.V_mono HO_204000.out (fun k_ hk => (⟨hk, hk.2⟩ : _ ∧ k_ ≠ gb210))) (fun _ hk => hk.2) _) (fun _ hk => hk.2) (.string (⟨#[]⟩ : ByteArray))) (fun _ hk => hk.2) (.string (⟨#[]⟩ : ByteArray))) (fun _ hk => hk.2) _) (fun _ hk => ⟨hk.1.1.1.1, ⟨hk.1.1.1.2.1, ⟨hk.1.1.1.2.2, ⟨hk.1.1.2, hk.1.2⟩⟩⟩⟩)⟩, ⟨by (with_reducible repeat (first | apply bN | apply bD | apply bA)); refine blk_far ?_ NB195_210.out _; (with_reducible repeat (first | apply bN | apply bD | apply bA)); refine blk_far ?_ NB195_210.out _; (with_reducible repeat (first | apply bN | apply bD | apply bA)); refine blk_far ?_ NB195_210.out _; (with_reducible repeat (first | apply bN | apply bD | apply bA)); refine blk_far ?_ NB195_210.out _; (with_reducible repeat (first | apply bN | apply bD | apply bA)); exact BK195.out⟩, ⟨by (with_reducible repeat (first | apply bN | apply bD | apply bA)); refine blk_far ?_ NB203_210.out _; (with_reducible repeat (first | apply bN | apply bD | apply bA)); refine blk_far ?_ NB203_210.out _; (with_reducible repeat (first | apply bN | apply bD | apply bA)); refine blk_far ?_ NB203_210.out _; (with_reducible repeat (first | apply bN | apply bD | apply bA)); refine blk_far ?_ NB203_210.out _; (with_reducible repeat (first | apply bN | apply bD | apply bA)); exact BK203.out⟩, ⟨by (with_reducible repeat (first | apply bN | apply bD | apply bA)); refine blk_far ?_ NB209_210.out _; (with_reducible repeat (first | apply bN | apply bD | apply bA)); refine blk_far ?_ NB209_210.out _; (with_reducible repeat (first | apply bN | apply bD | apply bA)); refine blk_far ?_ NB209_210.out _; (with_reducible repeat (first | apply bN | apply bD | apply bA)); refine blk_far ?_ NB209_210.out _; (with_reducible repeat (first | apply bN | apply bD | apply bA)); exact BK209.out⟩, ⟨by (with_reducible repeat (first | apply bN | apply bD | apply bA)); refine blk_put (cs := #[.int .i64 0, .string (⟨#[]⟩ : ByteArray), .string (⟨#[]⟩ : ByteArray), .int .i64 0]) ?_ 3 _ rfl; (with_reducible repeat (first | apply bN | apply bD | apply bA)); refine blk_put (cs := #[.int .i64 0, .string (⟨#[]⟩ : ByteArray), .string (⟨#[]⟩ : ByteArray), .int .i64 0]) ?_ 2 _ rfl; (with_reducible repeat (first | apply bN | apply bD | apply bA)); refine blk_put (cs := #[.int .i64 0, .string (⟨#[]⟩ : ByteArray), .string (⟨#[]⟩ : ByteArray), .int .i64 0]) ?_ 1 _ rfl; (with_reducible repeat (first | apply bN | apply bD | apply bA)); refine blk_put (cs := #[.int .i64 0, .string (⟨#[]⟩ : ByteArray), .string (⟨#[]⟩ : ByteArray), .int .i64 0]) ?_ 0 _ rfl; (with_reducible repeat (first | apply bN | apply bD | apply bA)); exact BK210.out⟩, ⟨mH⟩⟩
      rw [if_pos c34] at H
      have c34b0 : ((Int.tmod (wrap64 (rd l0 x9_1)) 11) == 0) = true := beq_iff_eq.mpr c34
      have c34b1 : ((Int.tmod (wrap64 (rd l0 x9_1)) 11) != 0) = false := bne_eq_false_iff_eq.mpr c34
      clear c34
      (first | rw [c34b0] | (simp only [i64_w, i32_w]; rw [c34b0]) | skip)
      have H' := Aside0.mk H
      clear H
      have hnb35 := NB209_195.out
      have hnc35 := NB195_209.out
      have hnb36 := NB209_203.out
      have hnc36 := NB203_209.out
      have hnb37 := NB209_210.out
      have hnc37 := NB210_209.out
      obtain ⟨hcz38_0, hcz38_1, hcz38_2, hfz38_0, hfz38_1, hfz38_2⟩ := kc3 BK209.out
      have hnb39 := NB210_195.out
      have hnc39 := NB195_210.out
      have hnb40 := NB210_203.out
      have hnc40 := NB203_210.out
      obtain ⟨hcz41_0, hcz41_1, hcz41_2, hcz41_3, hfz41_0, hfz41_1, hfz41_2, hfz41_3⟩ := kc4 BK210.out
      go_wp2
      go_meet
      case rel => exact ⟨_, (1), ((⟨#[120]⟩ : ByteArray)), (t208), (0), H', ⟨by have := HK1.out; have := HJ10.out; first | omega | exact Nat.le_refl _⟩, ⟨by (with_reducible repeat (first | apply vA | apply vN | apply vD)); exact Kd.V_mono (Kd.V_far (p := ⟨gb210, 3, none⟩) (Kd.V_far (p := ⟨gb210, 2, none⟩) (Kd.V_far (p := ⟨gb210, 1, none⟩) (Kd.V_far (p := ⟨gb210, 0, none⟩) (Kd.V_far (p := ⟨gb210, 3, none⟩) (Kd.V_far (p := ⟨gb210, 2, none⟩) (Kd.V_far (p := ⟨gb210, 1, none⟩) (Kd.V_far (p := ⟨gb210, 0, none⟩) (Kd.V_mono HO_204000.out (fun k_ hk => (⟨hk, hk.2⟩ : _ ∧ k_ ≠ gb210))) (fun _ hk => hk.2) _) (fun _ hk => hk.2) (.string (⟨#[]⟩ : ByteArray))) (fun _ hk => hk.2) (.string (⟨#[]⟩ : ByteArray))) (fun _ hk => hk.2) _) (fun _ hk => hk.2) _) (fun _ hk => hk.2) (.string (⟨#[120]⟩ : ByteArray))) (fun _ hk => hk.2) (.string t208)) (fun _ hk => hk.2) _) (fun _ hk => ⟨hk.1.1.1.1, ⟨hk.1.1.1.2.1, ⟨hk.1.1.1.2.2, ⟨hk.1.1.2, hk.1.2⟩⟩⟩⟩)⟩, ⟨by (with_reducible repeat (first | apply bN | apply bD | apply bA)); refine blk_far ?_ NB195_210.out _; (with_reducible repeat (first | apply bN | apply bD | apply bA)); refine blk_far ?_ NB195_210.out _; (with_reducible repeat (first | apply bN | apply bD | apply bA)); refine blk_far ?_ NB195_210.out _; (with_reducible repeat (first | apply bN | apply bD | apply bA)); refine blk_far ?_ NB195_210.out _; (with_reducible repeat (first | apply bN | apply bD | apply bA)); refine blk_far ?_ NB195_210.out _; (with_reducible repeat (first | apply bN | apply bD | apply bA)); refine blk_far ?_ NB195_210.out _; (with_reducible repeat (first | apply bN | apply bD | apply bA)); refine blk_far ?_ NB195_210.out _; (with_reducible repeat (first | apply bN | apply bD | apply bA)); refine blk_far ?_ NB195_210.out _; (with_reducible repeat (first | apply bN | apply bD | apply bA)); exact BK195.out⟩, ⟨by (with_reducible repeat (first | apply bN | apply bD | apply bA)); refine blk_far ?_ NB203_210.out _; (with_reducible repeat (first | apply bN | apply bD | apply bA)); refine blk_far ?_ NB203_210.out _; (with_reducible repeat (first | apply bN | apply bD | apply bA)); refine blk_far ?_ NB203_210.out _; (with_reducible repeat (first | apply bN | apply bD | apply bA)); refine blk_far ?_ NB203_210.out _; (with_reducible repeat (first | apply bN | apply bD | apply bA)); refine blk_far ?_ NB203_210.out _; (with_reducible repeat (first | apply bN | apply bD | apply bA)); refine blk_far ?_ NB203_210.out _; (with_reducible repeat (first | apply bN | apply bD | apply bA)); refine blk_far ?_ NB203_210.out _; (with_reducible repeat (first | apply bN | apply bD | apply bA)); refine blk_far ?_ NB203_210.out _; (with_reducible repeat (first | apply bN | apply bD | apply bA)); exact BK203.out⟩, ⟨by (with_reducible repeat (first | apply bN | apply bD | apply bA)); refine blk_far ?_ NB209_210.out _; (with_reducible repeat (first | apply bN | apply bD | apply bA)); refine blk_far ?_ NB209_210.out _; (with_reducible repeat (first | apply bN | apply bD | apply bA)); refine blk_far ?_ NB209_210.out _; (with_reducible repeat (first | apply bN | apply bD | apply bA)); refine blk_far ?_ NB209_210.out _; (with_reducible repeat (first | apply bN | apply bD | apply bA)); refine blk_far ?_ NB209_210.out _; (with_reducible repeat (first | apply bN | apply bD | apply bA)); refine blk_far ?_ NB209_210.out _; (with_reducible repeat (first | apply bN | apply bD | apply bA)); refine blk_far ?_ NB209_210.out _; (with_reducible repeat (first | apply bN | apply bD | apply bA)); refine blk_far ?_ NB209_210.out _; (with_reducible repeat (first | apply bN | apply bD | apply bA)); exact BK209.out⟩, ⟨by (with_reducible repeat (first | apply bN | apply bD | apply bA)); refine blk_put (cs := #[.int .i64 1, .string (⟨#[120]⟩ : ByteArray), .string t208, .int .i64 0]) ?_ 3 _ rfl; (with_reducible repeat (first | apply bN | apply bD | apply bA)); refine blk_put (cs := #[.int .i64 1, .string (⟨#[120]⟩ : ByteArray), .string (⟨#[]⟩ : ByteArray), .int .i64 0]) ?_ 2 _ rfl; (with_reducible repeat (first | apply bN | apply bD | apply bA)); refine blk_put (cs := #[.int .i64 1, .string (⟨#[]⟩ : ByteArray), .string (⟨#[]⟩ : ByteArray), .int .i64 0]) ?_ 1 _ rfl; (with_reducible repeat (first | apply bN | apply bD | apply bA)); refine blk_put (cs := #[.int .i64 0, .string (⟨#[]⟩ : ByteArray), .string (⟨#[]⟩ : ByteArray), .int .i64 0]) ?_ 0 _ rfl; (with_reducible repeat (first | apply bN | apply bD | apply bA)); refine blk_put (cs := #[.int .i64 0, .string (⟨#[]⟩ : ByteArray), .string (⟨#[]⟩ : ByteArray), .int .i64 0]) ?_ 3 _ rfl; (with_reducible repeat (first | apply bN | apply bD | apply bA)); refine blk_put (cs := #[.int .i64 0, .string (⟨#[]⟩ : ByteArray), .string (⟨#[]⟩ : ByteArray), .int .i64 0]) ?_ 2 _ rfl; (with_reducible repeat (first | apply bN | apply bD | apply bA)); refine blk_put (cs := #[.int .i64 0, .string (⟨#[]⟩ : ByteArray), .string (⟨#[]⟩ : ByteArray), .int .i64 0]) ?_ 1 _ rfl; (with_reducible repeat (first | apply bN | apply bD | apply bA)); refine blk_put (cs := #[.int .i64 0, .string (⟨#[]⟩ : ByteArray), .string (⟨#[]⟩ : ByteArray), .int .i64 0]) ?_ 0 _ rfl; (with_reducible repeat (first | apply bN | apply bD | apply bA)); exact BK210.out⟩, ⟨mH⟩⟩
     case rest =>
      clear HC22
      try clear c1
      try clear c2
      try clear p2
      try clear q2k13
      try clear hx2
      try clear c3
      try clear c4
      try clear p6
      try clear c9
      try clear c11
      try clear c12
      try clear c12b0
      try clear c13
      try clear c14
      try clear c14b0
      try clear c15
      try clear c15b0
      try clear c16
      try clear c16b0
      try clear c16b1
      try clear c18
      try clear c18b0
      try clear c19
      try clear c19b0
      try clear c19b1
      try clear c20
      try clear c20b0
      try clear c20b1
      try clear p20
      try clear q20
      try clear hx20
      try clear c23
      try clear c24
      try clear c26
      try clear c27
      try clear c30
      try clear c31
      try clear c32
      try clear c34
      try clear c34b0
      try clear c34b1
      try clear c35
      try clear c36
      try clear c37
      try clear c39
      try clear c40
      try clear hcz10_0
      try clear hcz10_1
      try clear hcz10_2
      try clear hcz10_3
      try clear hcz28_0
      try clear hcz28_1
      try clear hcz28_2
      try clear hcz33_0
      try clear hcz33_1
      try clear hcz33_2
      try clear hcz33_3
      try clear hcz38_0
      try clear hcz38_1
      try clear hcz38_2
      try clear hcz41_0
      try clear hcz41_1
      try clear hcz41_2
      try clear hcz41_3
      try clear hfz10_0
      try clear hfz10_1
      try clear hfz10_2
      try clear hfz10_3
      try clear hfz28_0
      try clear hfz28_1
      try clear hfz28_2
      try clear hfz33_0
      try clear hfz33_1
      try clear hfz33_2
      try clear hfz33_3
      try clear hfz38_0
      try clear hfz38_1
      try clear hfz38_2
      try clear hfz41_0
      try clear hfz41_1
      try clear hfz41_2
      try clear hfz41_3
      try clear hx204_0
      try clear p2
      try clear p204
      try clear q204
      obtain ⟨kq, x211000_21, x211001_21, x211002_21, x211003_21, HA, HJ21, HO_204000, BK195, BK203, BK209, BK210, HB⟩ := hcut
      cases kq with
      | zero => exact absurd HA.out (by simp [clinkerlaw06_Made.j2])
      | succ kj21 =>
       have H := HA.out
       clear HA
       simp only [clinkerlaw06_Made.j2] at H
       by_cases c42 : (Int.tmod (wrap64 (rd l0 x9_1)) 29) = 0
       case neg =>
        rw [if_neg c42] at H
        have c42b0 : ((Int.tmod (wrap64 (rd l0 x9_1)) 29) == 0) = false := beq_eq_false_iff_ne.mpr c42
        have c42b1 : ((Int.tmod (wrap64 (rd l0 x9_1)) 29) != 0) = true := bne_iff_ne.mpr c42
        obtain ⟨ji93, hji93⟩ : ∃ j_ : Int, (Int.tmod (wrap64 (rd l0 x9_1)) a1) = j_ := ⟨_, rfl⟩
        replace H : (if 0 ≤ (ji93) then (if (ji93) < (x204000_1.length : Int) then ((clinkerref05_Program.f x204000_1 x204001_1 x204002_1 x204003_1 (ji93) ((rd_T62 x204000_1 (ji93)).f1) t206 t207 t208 x211000_21 x211001_21 x211002_21 x211003_21).bind fun bt228 => (if bt228.2.2.2.2 = 1 then (clinkerlaw06_Made.l0 kj21 l0 a1 (mx ji17 (wrap64 (x9_1 + 1))) (wrap64 (x10_1 + 1)) x204000_1 x204001_1 x204002_1 x204003_1) else (clinkerlaw06_Made.l0 kj21 l0 a1 (mx ji17 (wrap64 (x9_1 + 1))) (wrap64 (x10_1 + 1)) bt228.1 bt228.2.1 bt228.2.2.1 bt228.2.2.2.1))) else (none)) else (none)) = some (r1, r2, r3, r4) := by first | (rw [hji93] at H; exact H) | (simp only [hji93] at H ⊢; exact H)
        by_cases c94 : 0 ≤ (ji93)
        case neg =>
         rw [if_neg c94] at H
         exact absurd H (by simp)
        rw [if_pos c94] at H
        have c94b0 : decide (0 ≤ (ji93)) = true := decide_eq_true c94
        clear c94
        by_cases c95 : (ji93) < (x204000_1.length : Int)
        case neg =>
         rw [if_neg c95] at H
         exact absurd H (by simp)
        rw [if_pos c95] at H
        have c95b0 : decide ((ji93) < (x204000_1.length : Int)) = true := decide_eq_true c95
        clear c95
        replace H := Option.bind_eq_some_iff.mp H
        obtain ⟨⟨t228, t231, t232, t233, t234⟩, A960, H⟩ := H
        replace H : (if t234 = 1 then (clinkerlaw06_Made.l0 kj21 l0 a1 (mx ji17 (wrap64 (x9_1 + 1))) (wrap64 (x10_1 + 1)) x204000_1 x204001_1 x204002_1 x204003_1) else (clinkerlaw06_Made.l0 kj21 l0 a1 (mx ji17 (wrap64 (x9_1 + 1))) (wrap64 (x10_1 + 1)) t228 t231 t232 t233)) = some (r1, r2, r3, r4) := H
        have A96 := Aside0.mk A960
        clear A960
        by_cases c97 : t234 = 1
        case' pos =>
         rw [if_pos c97] at H
         have c97b0 : (t234 == 1) = true := beq_iff_eq.mpr c97
         have c97b1 : (t234 != 1) = false := bne_eq_false_iff_eq.mpr c97
         clear c97
         obtain ⟨ji98, hji98⟩ : ∃ j_ : Int, (mx ji17 (wrap64 (x9_1 + 1))) = j_ := ⟨_, rfl⟩
         replace H : (clinkerlaw06_Made.l0 kj21 l0 a1 ji98 (wrap64 (x10_1 + 1)) x204000_1 x204001_1 x204002_1 x204003_1) = some (r1, r2, r3, r4) := by first | (rw [hji98] at H; exact H) | (simp only [hji98] at H ⊢; exact H)
        case' neg =>
         rw [if_neg c97] at H
         have c97b0 : (t234 == 1) = false := beq_eq_false_iff_ne.mpr c97
         have c97b1 : (t234 != 1) = true := bne_iff_ne.mpr c97
         obtain ⟨ji98, hji98⟩ : ∃ j_ : Int, (mx ji17 (wrap64 (x9_1 + 1))) = j_ := ⟨_, rfl⟩
         replace H : (clinkerlaw06_Made.l0 kj21 l0 a1 ji98 (wrap64 (x10_1 + 1)) t228 t231 t232 t233) = some (r1, r2, r3, r4) := by first | (rw [hji98] at H; exact H) | (simp only [hji98] at H ⊢; exact H)
        all_goals
         (try rw [hji98] at A96)
         have hji98_ : (if ji17 < (wrap64 (x9_1 + 1)) then (wrap64 (x9_1 + 1)) else ji17) = ji98 := hji98
         have H' := Aside0.mk H
         clear H
         obtain ⟨Ao99, co99, eo99⟩ := Kd.V_slice HO_204000.out
         subst eo99
         try go_wp2
         replace HO_204000 := Aside0.mk (vD HO_204000.out)
         replace BK195 := Aside0.mk (bD BK195.out)
         replace BK203 := Aside0.mk (bD BK203.out)
         replace BK209 := Aside0.mk (bD BK209.out)
         replace BK210 := Aside0.mk (bD BK210.out)
         replace HB := Aside0.mk (lD HB.out)
         have p227 : 0 ≤ ((ji93) : Int) := of_decide_eq_true (by first | (with_reducible assumption) | assumption)
         have q227 : (ji93) < (x204000_1.length : Int) := of_decide_eq_true (by first | (with_reducible assumption) | assumption)
         obtain ⟨ad227, A227_0, c227_0, e227, hx227_0, hx227_1, hx227_2, hx227_3, hl227_0, hi227_0⟩ := at_T62 (Kd.V_reads' HO_204000.out).2.2 (ji93) p227 q227
         cases e227
         obtain ⟨ce227, hce227, hMe227, hcc227⟩ := Kd.V_get HO_204000.out z62 (ji93) p227 (by first | exact q227 | exact of_decide_eq_true (by first | (with_reducible assumption) | assumption) | (have e_ := (Kd.V_reads' HO_204000.out).1; omega))
         obtain ⟨ua227_0, uc227_0, rfl, ul227_0, ge227_0⟩ := k62_openF hMe227
         have hv227_0 := hcc227 0 _ rfl
         rw [Nat.add_zero] at hv227_0
         replace hv227_0 := Option.some.inj (hv227_0.symm.trans hx227_0)
         injection hv227_0 with hva_ hvn_ hvc_
         rw [hva_] at ge227_0
         rw [hvc_] at ul227_0
         have HL227_0 := Aside0.mk (show Kd.V k54 54 _ w.heap.size _ _ ((rd_T62 x204000_1 (ji93)).f0) from Kd.V_mk ul227_0 ge227_0)
         clear hva_ hvn_ hvc_ ge227_0 ul227_0
         clear hcc227 hce227
         have HR227_0 := Aside0.mk hi227_0
         have HC227_0 := Aside0.mk hl227_0
         clear hi227_0 hl227_0
         replace p227 := eq_true p227
         replace q227 := eq_true q227
         refine start_ (n := 17) (S := fun w' => w'.cell? ⟨gb203, 0, none⟩ = some (.slice (some ad227) x204000_1.length co99) ∧ w'.cell? ⟨gb203, 1, none⟩ = some (.bool x204001_1) ∧ w'.cell? ⟨gb203, 2, none⟩ = some (.bool x204002_1) ∧ w'.cell? ⟨gb203, 3, none⟩ = some (.int .i64 x204003_1) ∧ w'.cell? ⟨gb209, 0, none⟩ = some (.bool t206) ∧ w'.cell? ⟨gb209, 1, none⟩ = some (.string t207) ∧ w'.cell? ⟨gb209, 2, none⟩ = some (.string t208) ∧ w'.cell? ⟨gb210, 0, none⟩ = some (.int .i64 x211000_21) ∧ w'.cell? ⟨gb210, 1, none⟩ = some (.string x211001_21) ∧ w'.cell? ⟨gb210, 2, none⟩ = some (.string x211002_21) ∧ w'.cell? ⟨gb210, 3, none⟩ = some (.int .i64 x211003_21) ∧ w'.cell? (ad227.add (((ji93)).toNat * 4)) = some (.slice A227_0 ((rd_T62 x204000_1 (ji93)).f0).length c227_0) ∧ w'.cell? ⟨(ad227.add (((ji93)).toNat * 4)).block, (ad227.add (((ji93)).toNat * 4)).off + 1, none⟩ = some (.int .i64 ((rd_T62 x204000_1 (ji93)).f1)) ∧ w'.cell? ⟨(ad227.add (((ji93)).toNat * 4)).block, (ad227.add (((ji93)).toNat * 4)).off + 2, none⟩ = some (.int .i64 ((rd_T62 x204000_1 (ji93)).f2)) ∧ w'.cell? ⟨(ad227.add (((ji93)).toNat * 4)).block, (ad227.add (((ji93)).toNat * 4)).off + 3, none⟩ = some (.bool ((rd_T62 x204000_1 (ji93)).f3))) (ds := []) q0k13 (by kernel_rfl) rfl rfl ⟨(blk_cell BK203.out 0).trans rfl, (blk_cell BK203.out 1).trans rfl, (blk_cell BK203.out 2).trans rfl, (blk_cell BK203.out 3).trans rfl, (blk_cell BK209.out 0).trans rfl, (blk_cell BK209.out 1).trans rfl, (blk_cell BK209.out 2).trans rfl, (blk_cell BK210.out 0).trans rfl, (blk_cell BK210.out 1).trans rfl, (blk_cell BK210.out 2).trans rfl, (blk_cell BK210.out 3).trans rfl, hx227_0, hx227_1, hx227_2, hx227_3⟩ (fun hHeld => ?_); refine with_tabW clinkerlaw06_Made.tab15 clinkerlaw06_Made.bits15 (fun HT_ HW_ => ?_)
         generalize wc.drew = w100 at HO_204000 BK195 BK203 BK209 BK210 HB HL227_0 HR227_0 hx227_0 hx227_1 hx227_2 hx227_3 hHeld ⊢
         refine pa 1 (some 78) ?_
         refine pa 2 (some 79) ?_
         refine pa 4 (some 81) ?_
         refine ta 0 (some 77) hHeld ?_
         refine ta 3 (some 80) hHeld ?_
         refine pa 5 (some 82) ?_
         refine pa 6 (some 83) ?_
         refine ta 7 (some 84) hHeld ?_
         refine ta 8 (some 85) hHeld ?_
         refine ta 9 (some 86) hHeld ?_
         refine join_ (σ := Value × Nat) 2 q1k13 (fun s_ => [(87, .tuple #[.agg #[s_.1, .bool t231, .bool t232, .int .i64 t233], .int .i64 t234]), (16, .pointer (some ⟨s_.2, 0, none⟩)), (76, .tuple #[.agg #[s_.1, .bool t231, .bool t232, .int .i64 t233], .int .i64 t234]), (88, .agg #[s_.1, .bool t231, .bool t232, .int .i64 t233]), (89, .int .i64 t234)]) (fun s_ w' => (w'.cell? ⟨gb203, 0, none⟩ = some (.slice (some ad227) x204000_1.length co99) ∧ w'.cell? ⟨gb203, 1, none⟩ = some (.bool x204001_1) ∧ w'.cell? ⟨gb203, 2, none⟩ = some (.bool x204002_1) ∧ w'.cell? ⟨gb203, 3, none⟩ = some (.int .i64 x204003_1) ∧ w'.cell? ⟨gb209, 0, none⟩ = some (.bool t206) ∧ w'.cell? ⟨gb209, 1, none⟩ = some (.string t207) ∧ w'.cell? ⟨gb209, 2, none⟩ = some (.string t208) ∧ w'.cell? ⟨gb210, 0, none⟩ = some (.int .i64 x211000_21) ∧ w'.cell? ⟨gb210, 1, none⟩ = some (.string x211001_21) ∧ w'.cell? ⟨gb210, 2, none⟩ = some (.string x211002_21) ∧ w'.cell? ⟨gb210, 3, none⟩ = some (.int .i64 x211003_21) ∧ w'.cell? (ad227.add (((ji93)).toNat * 4)) = some (.slice A227_0 ((rd_T62 x204000_1 (ji93)).f0).length c227_0) ∧ w'.cell? ⟨(ad227.add (((ji93)).toNat * 4)).block, (ad227.add (((ji93)).toNat * 4)).off + 1, none⟩ = some (.int .i64 ((rd_T62 x204000_1 (ji93)).f1)) ∧ w'.cell? ⟨(ad227.add (((ji93)).toNat * 4)).block, (ad227.add (((ji93)).toNat * 4)).off + 2, none⟩ = some (.int .i64 ((rd_T62 x204000_1 (ji93)).f2)) ∧ w'.cell? ⟨(ad227.add (((ji93)).toNat * 4)).block, (ad227.add (((ji93)).toNat * 4)).off + 3, none⟩ = some (.bool ((rd_T62 x204000_1 (ji93)).f3))) ∧ (Kd.V k54 54 w' w.heap.size (fun k_ => (w.heap.size ≤ k_) ∧ k_ ≠ gb195 ∧ k_ ≠ gb203 ∧ k_ ≠ gb209 ∧ k_ ≠ gb210 ∧ k_ ≠ s_.2) (.slice A227_0 ((rd_T62 x204000_1 (ji93)).f0).length c227_0) ((rd_T62 x204000_1 (ji93)).f0)) ∧ (Kd.V k62 62 w' w.heap.size (fun k_ => (w.heap.size ≤ k_) ∧ k_ ≠ gb195 ∧ k_ ≠ gb203 ∧ k_ ≠ gb209 ∧ k_ ≠ gb210 ∧ k_ ≠ s_.2) s_.1 t228) ∧ (Kd.V k62 62 w' w.heap.size (fun k_ => (w.heap.size ≤ k_) ∧ k_ ≠ gb195 ∧ k_ ≠ gb203 ∧ k_ ≠ gb209 ∧ k_ ≠ gb210 ∧ k_ ≠ s_.2) (.slice (some ad227) x204000_1.length co99) x204000_1) ∧ (w'.heap[gb195]? = some (.cells #[.slice none 0 0, .bool false, .bool false, .int .i64 0] 32 (0, 0))) ∧ (w'.heap[gb203]? = some (.cells #[.slice (some ad227) x204000_1.length co99, .bool x204001_1, .bool x204002_1, .int .i64 x204003_1] 32 (0, 0))) ∧ (w'.heap[gb209]? = some (.cells #[.bool t206, .string t207, .string t208] 54 (0, 0))) ∧ (w'.heap[gb210]? = some (.cells #[.int .i64 x211000_21, .string x211001_21, .string x211002_21, .int .i64 x211003_21] 57 (0, 0))) ∧ (w'.heap[s_.2]? = some (.cells #[.slice none 0 0, .bool false, .bool false, .int .i64 0] 32 (0, 0))) ∧ (w.heap.size ≤ s_.2) ∧ (w.heap.size ≤ s_.2) ∧ (gb195 ≠ s_.2) ∧ (s_.2 ≠ gb195) ∧ (gb203 ≠ s_.2) ∧ (s_.2 ≠ gb203) ∧ (gb209 ≠ s_.2) ∧ (s_.2 ≠ gb209) ∧ (gb210 ≠ s_.2) ∧ (s_.2 ≠ gb210) ∧ (Below w.heap.size w w')) ?_ ?_
         rotate_left
         ·
          intro hCont
          refine two_ (i := 10) (j := 14) (Ni := some 87) (Nj := some 16) q2k13 q3k13 rfl rfl rfl rfl (two_of HT_.out (by kernel_rfl)) (by decide) (by decide) (fun K hK => ?_) (fun K hK => ?_)
          ·
           skip
           refine goes_ Try.func26 (by kernel_rfl) rfl #[.agg #[.slice (some ad227) x204000_1.length co99, .bool x204001_1, .bool x204002_1, .int .i64 x204003_1], .int .i64 (ji93), .int .i64 ((rd_T62 x204000_1 (ji93)).f1), .agg #[.bool t206, .string t207, .string t208], .agg #[.int .i64 x211000_21, .string x211001_21, .string x211002_21, .int .i64 x211003_21]] (by rfl) rfl rfl (by (try simp only [List.map_toArray, List.map_cons, List.map_nil]); first | done | (simp only [hji93]; rfl) | rfl | (simp only [List.length_drop, List.length_take]; rfl)) ?_
           with_reducible refine (clinkerref05_Program.calls _ _ x204000_1 x204001_1 x204002_1 x204003_1 (ji93) ((rd_T62 x204000_1 (ji93)).f1) t206 t207 t208 x211000_21 x211001_21 x211002_21 x211003_21 t228 t231 t232 t233 t234 _ ?side1 ?side2 A96.out).mono ?_
           (case side1 => repeat (first | exact (Kd.V_reads' HO_204000.out).2.2 | (with_reducible refine Kd.C_alloc ?_ _) | (with_reducible refine Kd.C_drewN ?_ _) | (with_reducible refine Kd.C_drew ?_)))
           (case side2 => exact (Kd.V_reads' HO_204000.out).2.1)
           rintro e w101 ⟨v229, rfl, ho0, hb⟩
           have HS11_ := (hb.cell (World.block_lt_of_cell? _ _ (hHeld.2.2.2.2.2.2.2.2.2.2.2.1))).trans (hHeld.2.2.2.2.2.2.2.2.2.2.2.1)
           have HS12_ := (hb.cell (World.block_lt_of_cell? _ _ (hHeld.2.2.2.2.2.2.2.2.2.2.2.2.1))).trans (hHeld.2.2.2.2.2.2.2.2.2.2.2.2.1)
           have HS13_ := (hb.cell (World.block_lt_of_cell? _ _ (hHeld.2.2.2.2.2.2.2.2.2.2.2.2.2.1))).trans (hHeld.2.2.2.2.2.2.2.2.2.2.2.2.2.1)
           have HS14_ := (hb.cell (World.block_lt_of_cell? _ _ (hHeld.2.2.2.2.2.2.2.2.2.2.2.2.2.2))).trans (hHeld.2.2.2.2.2.2.2.2.2.2.2.2.2.2)
           refine ⟨_, rfl, ?_⟩
           replace HO_204000 := Aside0.mk (Kd.V_below (mV HO_204000.out) hb)
           replace HL227_0 := Aside0.mk (Kd.V_below (mV HL227_0.out) hb)
           have HO230 := Aside0.mk (Kd.V_lower (Kd.V_mono (ok' := fun k_ => (w.heap.size ≤ k_) ∧ k_ ≠ gb195 ∧ k_ ≠ gb203 ∧ k_ ≠ gb209 ∧ k_ ≠ gb210) ho0 (fun k_ hk_ => ⟨(Nat.le_trans bsz hk_), (Kd.freshB (g := gb195) (o := .cells #[.slice none 0 0, .bool false, .bool false, .int .i64 0] 32 (0, 0)) (mB BK195.out) k_ hk_), (Kd.freshB (g := gb203) (o := .cells #[.slice (some ad227) x204000_1.length co99, .bool x204001_1, .bool x204002_1, .int .i64 x204003_1] 32 (0, 0)) (mB BK203.out) k_ hk_), (Kd.freshB (g := gb209) (o := .cells #[.bool t206, .string t207, .string t208] 54 (0, 0)) (mB BK209.out) k_ hk_), (Kd.freshB (g := gb210) (o := .cells #[.int .i64 x211000_21, .string x211001_21, .string x211002_21, .int .i64 x211003_21] 57 (0, 0)) (mB BK210.out) k_ hk_)⟩)) bsz)
           replace BK195 := Aside0.mk (bb BK195.out hb)
           replace BK203 := Aside0.mk (bb BK203.out hb)
           replace BK209 := Aside0.mk (bb BK209.out hb)
           replace BK210 := Aside0.mk (bb BK210.out hb)
           replace HR227_0 := Aside0.mk (Kd.C_below (by repeat (first | (with_reducible exact HR227_0.out) | (with_reducible refine Kd.C_alloc ?_ _) | (with_reducible refine Kd.C_drewN ?_ _) | (with_reducible refine Kd.C_drew ?_) | exact HR227_0.out)) hb)
           replace HB := Aside0.mk (bst hb)
           (try clear hb)
           (try clear hb2)
           (try clear hk)
           (try clear hi)
           (try clear ho0)
           refine hK.out _ _ ⟨(blk_cell BK203.out 0).trans rfl, (blk_cell BK203.out 1).trans rfl, (blk_cell BK203.out 2).trans rfl, (blk_cell BK203.out 3).trans rfl, (blk_cell BK209.out 0).trans rfl, (blk_cell BK209.out 1).trans rfl, (blk_cell BK209.out 2).trans rfl, (blk_cell BK210.out 0).trans rfl, (blk_cell BK210.out 1).trans rfl, (blk_cell BK210.out 2).trans rfl, (blk_cell BK210.out 3).trans rfl, HS11_, HS12_, HS13_, HS14_⟩ (fun hHeld => ?_)
           clear hK K
           refine na (some 87) ?_
           refine pa 11 (some 76) ?_
           refine pa 12 (some 88) ?_
           refine pa 13 (some 89) ?_
           refine one_ (i := 14) (N := some 16) q1k13 rfl rfl (one_of HT_.out (by kernel_rfl)) (by decide) (fun K hK => ?_)
           refine box_step ?hg (N := 16) ?hd (cs := #[.slice none 0 0, .bool false, .bool false, .int .i64 0]) (t := 32) ?hr ?_; (case hd => rfl); (case hg => rfl); (case hr => first | (go_simp; done) | (go_simp; rfl))
           intro gb235 hg w102 hbox hb
           have HS11_ := (hb.cell (World.block_lt_of_cell? _ _ (hHeld.2.2.2.2.2.2.2.2.2.2.2.1))).trans (hHeld.2.2.2.2.2.2.2.2.2.2.2.1)
           have HS12_ := (hb.cell (World.block_lt_of_cell? _ _ (hHeld.2.2.2.2.2.2.2.2.2.2.2.2.1))).trans (hHeld.2.2.2.2.2.2.2.2.2.2.2.2.1)
           have HS13_ := (hb.cell (World.block_lt_of_cell? _ _ (hHeld.2.2.2.2.2.2.2.2.2.2.2.2.2.1))).trans (hHeld.2.2.2.2.2.2.2.2.2.2.2.2.2.1)
           have HS14_ := (hb.cell (World.block_lt_of_cell? _ _ (hHeld.2.2.2.2.2.2.2.2.2.2.2.2.2.2))).trans (hHeld.2.2.2.2.2.2.2.2.2.2.2.2.2.2)
           replace HO_204000 := Aside0.mk (Kd.V_below (Kd.V_elderB (mV HO_204000.out) gb235 (Nat.le_of_eq hg.symm)) hb)
           replace HL227_0 := Aside0.mk (Kd.V_below (Kd.V_elderB (mV HL227_0.out) gb235 (Nat.le_of_eq hg.symm)) hb)
           replace HO230 := Aside0.mk (Kd.V_below (Kd.V_elderB (mV HO230.out) gb235 (Nat.le_of_eq hg.symm)) hb)
           replace HR227_0 := Aside0.mk (Kd.C_below (by repeat (first | (with_reducible exact HR227_0.out) | (with_reducible refine Kd.C_alloc ?_ _) | (with_reducible refine Kd.C_drewN ?_ _) | (with_reducible refine Kd.C_drew ?_) | exact HR227_0.out)) hb)
           have BK235 := Aside0.mk (hbox)
           have GW235 := Aside0.mk ((bz hg : w.heap.size ≤ gb235))
           replace HB := Aside0.mk (bst hb)
           have GE235 := GW235
           have NB195_235 := Aside0.mk ((bl BK195.out hg : gb195 ≠ gb235))
           replace BK195 := Aside0.mk (bb BK195.out hb)
           have NB235_195 := Aside0.mk NB195_235.out.symm
           have NB203_235 := Aside0.mk ((bl BK203.out hg : gb203 ≠ gb235))
           replace BK203 := Aside0.mk (bb BK203.out hb)
           have NB235_203 := Aside0.mk NB203_235.out.symm
           have NB209_235 := Aside0.mk ((bl BK209.out hg : gb209 ≠ gb235))
           replace BK209 := Aside0.mk (bb BK209.out hb)
           have NB235_209 := Aside0.mk NB209_235.out.symm
           have NB210_235 := Aside0.mk ((bl BK210.out hg : gb210 ≠ gb235))
           replace BK210 := Aside0.mk (bb BK210.out hb)
           have NB235_210 := Aside0.mk NB210_235.out.symm
           clear hb hbox hg
           refine hK.out _ _ ⟨(blk_cell BK203.out 0).trans rfl, (blk_cell BK203.out 1).trans rfl, (blk_cell BK203.out 2).trans rfl, (blk_cell BK203.out 3).trans rfl, (blk_cell BK209.out 0).trans rfl, (blk_cell BK209.out 1).trans rfl, (blk_cell BK209.out 2).trans rfl, (blk_cell BK210.out 0).trans rfl, (blk_cell BK210.out 1).trans rfl, (blk_cell BK210.out 2).trans rfl, (blk_cell BK210.out 3).trans rfl, HS11_, HS12_, HS13_, HS14_⟩ (fun hHeld => ?_)
           clear hK K
           refine na (some 16) ?_
           exact norm_ (by simp only [putAll, Act.put, List.setIfInBounds_toArray, List.set_cons_zero, List.set_cons_succ]) (hCont (v229, gb235) _ ⟨hHeld, (by (with_reducible repeat (first | apply vA | apply vN | apply vD)); exact Kd.V_mono HL227_0.out (fun _ hk => ⟨hk.1.1, ⟨hk.1.2.1, ⟨hk.1.2.2.1, ⟨hk.1.2.2.2.1, ⟨hk.1.2.2.2.2, hk.2⟩⟩⟩⟩⟩)), (by (with_reducible repeat (first | apply vA | apply vN | apply vD)); exact Kd.V_mono HO230.out (fun _ hk => ⟨hk.1.1, ⟨hk.1.2.1, ⟨hk.1.2.2.1, ⟨hk.1.2.2.2.1, ⟨hk.1.2.2.2.2, hk.2⟩⟩⟩⟩⟩)), (by (with_reducible repeat (first | apply vA | apply vN | apply vD)); exact Kd.V_mono HO_204000.out (fun _ hk => ⟨hk.1.1, ⟨hk.1.2.1, ⟨hk.1.2.2.1, ⟨hk.1.2.2.2.1, ⟨hk.1.2.2.2.2, hk.2⟩⟩⟩⟩⟩)), (mB BK195.out), (mB BK203.out), (mB BK209.out), (mB BK210.out), (mB BK235.out), GW235.out, GE235.out, NB195_235.out, NB235_195.out, NB203_235.out, NB235_203.out, NB209_235.out, NB235_209.out, NB210_235.out, NB235_210.out, (by repeat (first | (with_reducible first | exact HB.out | apply lA | apply lN | apply lD | refine lS ?_ GE195.out | refine lS ?_ GE203.out | refine lS ?_ GE209.out | refine lS ?_ GE210.out | refine lS ?_ GE235.out) | exact HB.out))⟩)
          ·
           skip
           refine box_step ?hg (N := 16) ?hd (cs := #[.slice none 0 0, .bool false, .bool false, .int .i64 0]) (t := 32) ?hr ?_; (case hd => rfl); (case hg => rfl); (case hr => first | (go_simp; done) | (go_simp; rfl))
           intro gb235 hg w101 hbox hb
           have HS11_ := (hb.cell (World.block_lt_of_cell? _ _ (hHeld.2.2.2.2.2.2.2.2.2.2.2.1))).trans (hHeld.2.2.2.2.2.2.2.2.2.2.2.1)
           have HS12_ := (hb.cell (World.block_lt_of_cell? _ _ (hHeld.2.2.2.2.2.2.2.2.2.2.2.2.1))).trans (hHeld.2.2.2.2.2.2.2.2.2.2.2.2.1)
           have HS13_ := (hb.cell (World.block_lt_of_cell? _ _ (hHeld.2.2.2.2.2.2.2.2.2.2.2.2.2.1))).trans (hHeld.2.2.2.2.2.2.2.2.2.2.2.2.2.1)
           have HS14_ := (hb.cell (World.block_lt_of_cell? _ _ (hHeld.2.2.2.2.2.2.2.2.2.2.2.2.2.2))).trans (hHeld.2.2.2.2.2.2.2.2.2.2.2.2.2.2)
           replace HO_204000 := Aside0.mk (Kd.V_below (Kd.V_elderB (mV HO_204000.out) gb235 (Nat.le_of_eq hg.symm)) hb)
           replace HL227_0 := Aside0.mk (Kd.V_below (Kd.V_elderB (mV HL227_0.out) gb235 (Nat.le_of_eq hg.symm)) hb)
           replace HR227_0 := Aside0.mk (Kd.C_below (by repeat (first | (with_reducible exact HR227_0.out) | (with_reducible refine Kd.C_alloc ?_ _) | (with_reducible refine Kd.C_drewN ?_ _) | (with_reducible refine Kd.C_drew ?_) | exact HR227_0.out)) hb)
           have BK235 := Aside0.mk (hbox)
           have GW235 := Aside0.mk ((bz hg : w.heap.size ≤ gb235))
           replace HB := Aside0.mk (bst hb)
           have GE235 := GW235
           have NB195_235 := Aside0.mk ((bl BK195.out hg : gb195 ≠ gb235))
           replace BK195 := Aside0.mk (bb BK195.out hb)
           have NB235_195 := Aside0.mk NB195_235.out.symm
           have NB203_235 := Aside0.mk ((bl BK203.out hg : gb203 ≠ gb235))
           replace BK203 := Aside0.mk (bb BK203.out hb)
           have NB235_203 := Aside0.mk NB203_235.out.symm
           have NB209_235 := Aside0.mk ((bl BK209.out hg : gb209 ≠ gb235))
           replace BK209 := Aside0.mk (bb BK209.out hb)
           have NB235_209 := Aside0.mk NB209_235.out.symm
           have NB210_235 := Aside0.mk ((bl BK210.out hg : gb210 ≠ gb235))
           replace BK210 := Aside0.mk (bb BK210.out hb)
           have NB235_210 := Aside0.mk NB210_235.out.symm
           clear hb hbox hg
           refine hK.out _ _ ⟨(blk_cell BK203.out 0).trans rfl, (blk_cell BK203.out 1).trans rfl, (blk_cell BK203.out 2).trans rfl, (blk_cell BK203.out 3).trans rfl, (blk_cell BK209.out 0).trans rfl, (blk_cell BK209.out 1).trans rfl, (blk_cell BK209.out 2).trans rfl, (blk_cell BK210.out 0).trans rfl, (blk_cell BK210.out 1).trans rfl, (blk_cell BK210.out 2).trans rfl, (blk_cell BK210.out 3).trans rfl, HS11_, HS12_, HS13_, HS14_⟩ (fun hHeld => ?_)
           clear hK K
           refine na (some 16) ?_
           refine one_ (i := 10) (N := some 87) q4k13 rfl rfl (one_of HT_.out (by kernel_rfl)) (by decide) (fun K hK => ?_)
           refine goes_ Try.func26 (by kernel_rfl) rfl #[.agg #[.slice (some ad227) x204000_1.length co99, .bool x204001_1, .bool x204002_1, .int .i64 x204003_1], .int .i64 (ji93), .int .i64 ((rd_T62 x204000_1 (ji93)).f1), .agg #[.bool t206, .string t207, .string t208], .agg #[.int .i64 x211000_21, .string x211001_21, .string x211002_21, .int .i64 x211003_21]] (by rfl) rfl rfl (by (try simp only [List.map_toArray, List.map_cons, List.map_nil]); first | done | (simp only [hji93]; rfl) | rfl | (simp only [List.length_drop, List.length_take]; rfl)) ?_
           with_reducible refine (clinkerref05_Program.calls _ _ x204000_1 x204001_1 x204002_1 x204003_1 (ji93) ((rd_T62 x204000_1 (ji93)).f1) t206 t207 t208 x211000_21 x211001_21 x211002_21 x211003_21 t228 t231 t232 t233 t234 _ ?side1 ?side2 A96.out).mono ?_
           (case side1 => repeat (first | exact (Kd.V_reads' HO_204000.out).2.2 | (with_reducible refine Kd.C_alloc ?_ _) | (with_reducible refine Kd.C_drewN ?_ _) | (with_reducible refine Kd.C_drew ?_)))
           (case side2 => exact (Kd.V_reads' HO_204000.out).2.1)
           rintro e w102 ⟨v229, rfl, ho0, hb⟩
           have HS11_ := (hb.cell (World.block_lt_of_cell? _ _ (hHeld.2.2.2.2.2.2.2.2.2.2.2.1))).trans (hHeld.2.2.2.2.2.2.2.2.2.2.2.1)
           have HS12_ := (hb.cell (World.block_lt_of_cell? _ _ (hHeld.2.2.2.2.2.2.2.2.2.2.2.2.1))).trans (hHeld.2.2.2.2.2.2.2.2.2.2.2.2.1)
           have HS13_ := (hb.cell (World.block_lt_of_cell? _ _ (hHeld.2.2.2.2.2.2.2.2.2.2.2.2.2.1))).trans (hHeld.2.2.2.2.2.2.2.2.2.2.2.2.2.1)
           have HS14_ := (hb.cell (World.block_lt_of_cell? _ _ (hHeld.2.2.2.2.2.2.2.2.2.2.2.2.2.2))).trans (hHeld.2.2.2.2.2.2.2.2.2.2.2.2.2.2)
           refine ⟨_, rfl, ?_⟩
           replace HO_204000 := Aside0.mk (Kd.V_below (mV HO_204000.out) hb)
           replace HL227_0 := Aside0.mk (Kd.V_below (mV HL227_0.out) hb)
           have HO230 := Aside0.mk (Kd.V_lower (Kd.V_mono (ok' := fun k_ => (w.heap.size ≤ k_) ∧ k_ ≠ gb195 ∧ k_ ≠ gb203 ∧ k_ ≠ gb209 ∧ k_ ≠ gb210 ∧ k_ ≠ gb235) ho0 (fun k_ hk_ => ⟨(Nat.le_trans bsz hk_), (Kd.freshB (g := gb195) (o := .cells #[.slice none 0 0, .bool false, .bool false, .int .i64 0] 32 (0, 0)) (mB BK195.out) k_ hk_), (Kd.freshB (g := gb203) (o := .cells #[.slice (some ad227) x204000_1.length co99, .bool x204001_1, .bool x204002_1, .int .i64 x204003_1] 32 (0, 0)) (mB BK203.out) k_ hk_), (Kd.freshB (g := gb209) (o := .cells #[.bool t206, .string t207, .string t208] 54 (0, 0)) (mB BK209.out) k_ hk_), (Kd.freshB (g := gb210) (o := .cells #[.int .i64 x211000_21, .string x211001_21, .string x211002_21, .int .i64 x211003_21] 57 (0, 0)) (mB BK210.out) k_ hk_), (Kd.freshB (g := gb235) (o := .cells #[.slice none 0 0, .bool false, .bool false, .int .i64 0] 32 (0, 0)) (mB BK235.out) k_ hk_)⟩)) bsz)
           replace BK195 := Aside0.mk (bb BK195.out hb)
           replace BK203 := Aside0.mk (bb BK203.out hb)
           replace BK209 := Aside0.mk (bb BK209.out hb)
           replace BK210 := Aside0.mk (bb BK210.out hb)
           replace HR227_0 := Aside0.mk (Kd.C_below (by repeat (first | (with_reducible exact HR227_0.out) | (with_reducible refine Kd.C_alloc ?_ _) | (with_reducible refine Kd.C_drewN ?_ _) | (with_reducible refine Kd.C_drew ?_) | exact HR227_0.out)) hb)
           replace BK235 := Aside0.mk (bb BK235.out hb)
           replace HB := Aside0.mk (bst hb)
           (try clear hb)
           (try clear hb2)
           (try clear hk)
           (try clear hi)
           (try clear ho0)
           refine hK.out _ _ ⟨(blk_cell BK203.out 0).trans rfl, (blk_cell BK203.out 1).trans rfl, (blk_cell BK203.out 2).trans rfl, (blk_cell BK203.out 3).trans rfl, (blk_cell BK209.out 0).trans rfl, (blk_cell BK209.out 1).trans rfl, (blk_cell BK209.out 2).trans rfl, (blk_cell BK210.out 0).trans rfl, (blk_cell BK210.out 1).trans rfl, (blk_cell BK210.out 2).trans rfl, (blk_cell BK210.out 3).trans rfl, HS11_, HS12_, HS13_, HS14_⟩ (fun hHeld => ?_)
           clear hK K
           refine na (some 87) ?_
           refine pa 11 (some 76) ?_
           refine pa 12 (some 88) ?_
           refine pa 13 (some 89) ?_
           exact norm_ (by simp only [putAll, Act.put, List.setIfInBounds_toArray, List.set_cons_zero, List.set_cons_succ]) (hCont (v229, gb235) _ ⟨hHeld, (by (with_reducible repeat (first | apply vA | apply vN | apply vD)); exact Kd.V_mono HL227_0.out (fun _ hk => ⟨hk.1.1, ⟨hk.1.2.1, ⟨hk.1.2.2.1, ⟨hk.1.2.2.2.1, ⟨hk.1.2.2.2.2, hk.2⟩⟩⟩⟩⟩)), (mV HO230.out), (by (with_reducible repeat (first | apply vA | apply vN | apply vD)); exact Kd.V_mono HO_204000.out (fun _ hk => ⟨hk.1.1, ⟨hk.1.2.1, ⟨hk.1.2.2.1, ⟨hk.1.2.2.2.1, ⟨hk.1.2.2.2.2, hk.2⟩⟩⟩⟩⟩)), (mB BK195.out), (mB BK203.out), (mB BK209.out), (mB BK210.out), (mB BK235.out), GW235.out, GE235.out, NB195_235.out, NB235_195.out, NB203_235.out, NB235_203.out, NB209_235.out, NB235_209.out, NB210_235.out, NB235_210.out, (by repeat (first | (with_reducible first | exact HB.out | apply lA | apply lN | apply lD | refine lS ?_ GE195.out | refine lS ?_ GE203.out | refine lS ?_ GE209.out | refine lS ?_ GE210.out | refine lS ?_ GE235.out) | exact HB.out))⟩)
         rintro ⟨v229, gb235⟩ w103 ⟨hS_, h0_, h1_, h2_, h3_, h4_, h5_, h6_, h7_, h8_, h9_, h10_, h11_, h12_, h13_, h14_, h15_, h16_, h17_, h18_⟩
         have n0_ : Aside0 (Kd.V k54 54 w103 w.heap.size (fun k_ => (w.heap.size ≤ k_) ∧ k_ ≠ gb195 ∧ k_ ≠ gb203 ∧ k_ ≠ gb209 ∧ k_ ≠ gb210 ∧ k_ ≠ gb235) (.slice A227_0 ((rd_T62 x204000_1 (ji93)).f0).length c227_0) ((rd_T62 x204000_1 (ji93)).f0)) := ⟨h0_⟩
         have n1_ : Aside0 (Kd.V k62 62 w103 w.heap.size (fun k_ => (w.heap.size ≤ k_) ∧ k_ ≠ gb195 ∧ k_ ≠ gb203 ∧ k_ ≠ gb209 ∧ k_ ≠ gb210 ∧ k_ ≠ gb235) v229 t228) := ⟨h1_⟩
         have n2_ : Aside0 (Kd.V k62 62 w103 w.heap.size (fun k_ => (w.heap.size ≤ k_) ∧ k_ ≠ gb195 ∧ k_ ≠ gb203 ∧ k_ ≠ gb209 ∧ k_ ≠ gb210 ∧ k_ ≠ gb235) (.slice (some ad227) x204000_1.length co99) x204000_1) := ⟨h2_⟩
         have n3_ : Aside0 (w103.heap[gb195]? = some (.cells #[.slice none 0 0, .bool false, .bool false, .int .i64 0] 32 (0, 0))) := ⟨h3_⟩
         have n4_ : Aside0 (w103.heap[gb203]? = some (.cells #[.slice (some ad227) x204000_1.length co99, .bool x204001_1, .bool x204002_1, .int .i64 x204003_1] 32 (0, 0))) := ⟨h4_⟩
         have n5_ : Aside0 (w103.heap[gb209]? = some (.cells #[.bool t206, .string t207, .string t208] 54 (0, 0))) := ⟨h5_⟩
         have n6_ : Aside0 (w103.heap[gb210]? = some (.cells #[.int .i64 x211000_21, .string x211001_21, .string x211002_21, .int .i64 x211003_21] 57 (0, 0))) := ⟨h6_⟩
         have n7_ : Aside0 (w103.heap[gb235]? = some (.cells #[.slice none 0 0, .bool false, .bool false, .int .i64 0] 32 (0, 0))) := ⟨h7_⟩
         have n8_ : Aside0 (w.heap.size ≤ gb235) := ⟨h8_⟩
         have n9_ : Aside0 (w.heap.size ≤ gb235) := ⟨h9_⟩
         have n10_ : Aside0 (gb195 ≠ gb235) := ⟨h10_⟩
         have n11_ : Aside0 (gb235 ≠ gb195) := ⟨h11_⟩
         have n12_ : Aside0 (gb203 ≠ gb235) := ⟨h12_⟩
         have n13_ : Aside0 (gb235 ≠ gb203) := ⟨h13_⟩
         have n14_ : Aside0 (gb209 ≠ gb235) := ⟨h14_⟩
         have n15_ : Aside0 (gb235 ≠ gb209) := ⟨h15_⟩
         have n16_ : Aside0 (gb210 ≠ gb235) := ⟨h16_⟩
         have n17_ : Aside0 (gb235 ≠ gb210) := ⟨h17_⟩
         have n18_ : Aside0 (Below w.heap.size w w103) := ⟨h18_⟩
         clear HO_204000
         clear BK195
         clear BK203
         clear BK209
         clear BK210
         clear HB
         clear h0_ h1_ h2_ h3_ h4_ h5_ h6_ h7_ h8_ h9_ h10_ h11_ h12_ h13_ h14_ h15_ h16_ h17_ h18_
         have HL227_0 := n0_
         have HO230 := n1_
         have HO_204000 := n2_
         have BK195 := n3_
         have BK203 := n4_
         have BK209 := n5_
         have BK210 := n6_
         have BK235 := n7_
         have GW235 := n8_
         have GE235 := n9_
         have NB195_235 := n10_
         have NB235_195 := n11_
         have NB203_235 := n12_
         have NB235_203 := n13_
         have NB209_235 := n14_
         have NB235_209 := n15_
         have NB210_235 := n16_
         have NB235_210 := n17_
         have HB := n18_
         clear n0_ n1_ n2_ n3_ n4_ n5_ n6_ n7_ n8_ n9_ n10_ n11_ n12_ n13_ n14_ n15_ n16_ n17_ n18_
         have hHeld : w103.cell? ⟨gb203, 0, none⟩ = some (.slice (some ad227) x204000_1.length co99) ∧ w103.cell? ⟨gb203, 1, none⟩ = some (.bool x204001_1) ∧ w103.cell? ⟨gb203, 2, none⟩ = some (.bool x204002_1) ∧ w103.cell? ⟨gb203, 3, none⟩ = some (.int .i64 x204003_1) ∧ w103.cell? ⟨gb209, 0, none⟩ = some (.bool t206) ∧ w103.cell? ⟨gb209, 1, none⟩ = some (.string t207) ∧ w103.cell? ⟨gb209, 2, none⟩ = some (.string t208) ∧ w103.cell? ⟨gb210, 0, none⟩ = some (.int .i64 x211000_21) ∧ w103.cell? ⟨gb210, 1, none⟩ = some (.string x211001_21) ∧ w103.cell? ⟨gb210, 2, none⟩ = some (.string x211002_21) ∧ w103.cell? ⟨gb210, 3, none⟩ = some (.int .i64 x211003_21) ∧ w103.cell? (ad227.add (((ji93)).toNat * 4)) = some (.slice A227_0 ((rd_T62 x204000_1 (ji93)).f0).length c227_0) ∧ w103.cell? ⟨(ad227.add (((ji93)).toNat * 4)).block, (ad227.add (((ji93)).toNat * 4)).off + 1, none⟩ = some (.int .i64 ((rd_T62 x204000_1 (ji93)).f1)) ∧ w103.cell? ⟨(ad227.add (((ji93)).toNat * 4)).block, (ad227.add (((ji93)).toNat * 4)).off + 2, none⟩ = some (.int .i64 ((rd_T62 x204000_1 (ji93)).f2)) ∧ w103.cell? ⟨(ad227.add (((ji93)).toNat * 4)).block, (ad227.add (((ji93)).toNat * 4)).off + 3, none⟩ = some (.bool ((rd_T62 x204000_1 (ji93)).f3)) := hS_
         obtain ⟨Ao104, co104, eo104⟩ := Kd.V_slice HO230.out
         (first | subst eo104 | (injection eo104 with f1_ f2_ f3_; have f4_ := f1_.symm; have f5_ := f3_.symm; clear f1_ f2_ f3_; subst f4_; subst f5_))
         refine norm_ (a' := ?_) ?_ ?_; rotate_left; (focus simp only [putAll, Act.put, List.setIfInBounds_toArray, List.set_cons_zero, List.set_cons_succ]; rfl)
         refine one_ (i := 15) (N := none) q5k13 rfl rfl (one_of HT_.out (by kernel_rfl)) (by decide) (fun K hK => ?_)
         have hs105 : w103.cell? ⟨gb235, 0, none⟩ = some (.slice none 0 0) := (blk_cell BK235.out 0).trans rfl
         have hfs105 := blk_frozen BK235.out 0
         have hns105_0 := NB195_235.out
         have hns105_1 := NB203_235.out
         have hns105_2 := NB209_235.out
         have hns105_3 := NB210_235.out
         have hms105_0 := NB235_195.out
         have hms105_1 := NB235_203.out
         have hms105_2 := NB235_209.out
         have hms105_3 := NB235_210.out
         have hs106 : w103.cell? ⟨gb235, 1, none⟩ = some (.bool false) := (blk_cell BK235.out 1).trans rfl
         have hfs106 := blk_frozen BK235.out 1
         have hns106_0 := NB195_235.out
         have hns106_1 := NB203_235.out
         have hns106_2 := NB209_235.out
         have hns106_3 := NB210_235.out
         have hms106_0 := NB235_195.out
         have hms106_1 := NB235_203.out
         have hms106_2 := NB235_209.out
         have hms106_3 := NB235_210.out
         have hs107 : w103.cell? ⟨gb235, 2, none⟩ = some (.bool false) := (blk_cell BK235.out 2).trans rfl
         have hfs107 := blk_frozen BK235.out 2
         have hns107_0 := NB195_235.out
         have hns107_1 := NB203_235.out
         have hns107_2 := NB209_235.out
         have hns107_3 := NB210_235.out
         have hms107_0 := NB235_195.out
         have hms107_1 := NB235_203.out
         have hms107_2 := NB235_209.out
         have hms107_3 := NB235_210.out
         have hs108 : w103.cell? ⟨gb235, 3, none⟩ = some (.int .i64 0) := (blk_cell BK235.out 3).trans rfl
         have hfs108 := blk_frozen BK235.out 3
         have hns108_0 := NB195_235.out
         have hns108_1 := NB203_235.out
         have hns108_2 := NB209_235.out
         have hns108_3 := NB210_235.out
         have hms108_0 := NB235_195.out
         have hms108_1 := NB235_203.out
         have hms108_2 := NB235_209.out
         have hms108_3 := NB235_210.out
         refine skip_ (w1 := ?_) (by rfl) rfl ?_ ?_; rotate_left; (focus go_simp; rfl)
         have hF0_ : (ad227.add ((ji93).toNat * 4)).block ≠ gb235 := by rw [add_block]; exact vaw HO_204000.out ji93 (by first | exact of_eq_true p227 | assumption | omega) (by first | exact of_eq_true q227 | assumption | omega) (fun _ hk => hk.2.2.2.2.2)
         refine hK.out _ _ ⟨((cell_far (p := ⟨gb235, _, none⟩) NB203_235.out _).trans (((cell_far (p := ⟨gb235, _, none⟩) NB203_235.out _).trans (((cell_far (p := ⟨gb235, _, none⟩) NB203_235.out _).trans (((cell_far (p := ⟨gb235, _, none⟩) NB203_235.out _).trans (hHeld.1)))))))), ((cell_far (p := ⟨gb235, _, none⟩) NB203_235.out _).trans (((cell_far (p := ⟨gb235, _, none⟩) NB203_235.out _).trans (((cell_far (p := ⟨gb235, _, none⟩) NB203_235.out _).trans (((cell_far (p := ⟨gb235, _, none⟩) NB203_235.out _).trans (hHeld.2.1)))))))), ((cell_far (p := ⟨gb235, _, none⟩) NB203_235.out _).trans (((cell_far (p := ⟨gb235, _, none⟩) NB203_235.out _).trans (((cell_far (p := ⟨gb235, _, none⟩) NB203_235.out _).trans (((cell_far (p := ⟨gb235, _, none⟩) NB203_235.out _).trans (hHeld.2.2.1)))))))), ((cell_far (p := ⟨gb235, _, none⟩) NB203_235.out _).trans (((cell_far (p := ⟨gb235, _, none⟩) NB203_235.out _).trans (((cell_far (p := ⟨gb235, _, none⟩) NB203_235.out _).trans (((cell_far (p := ⟨gb235, _, none⟩) NB203_235.out _).trans (hHeld.2.2.2.1)))))))), ((cell_far (p := ⟨gb235, _, none⟩) NB209_235.out _).trans (((cell_far (p := ⟨gb235, _, none⟩) NB209_235.out _).trans (((cell_far (p := ⟨gb235, _, none⟩) NB209_235.out _).trans (((cell_far (p := ⟨gb235, _, none⟩) NB209_235.out _).trans (hHeld.2.2.2.2.1)))))))), ((cell_far (p := ⟨gb235, _, none⟩) NB209_235.out _).trans (((cell_far (p := ⟨gb235, _, none⟩) NB209_235.out _).trans (((cell_far (p := ⟨gb235, _, none⟩) NB209_235.out _).trans (((cell_far (p := ⟨gb235, _, none⟩) NB209_235.out _).trans (hHeld.2.2.2.2.2.1)))))))), ((cell_far (p := ⟨gb235, _, none⟩) NB209_235.out _).trans (((cell_far (p := ⟨gb235, _, none⟩) NB209_235.out _).trans (((cell_far (p := ⟨gb235, _, none⟩) NB209_235.out _).trans (((cell_far (p := ⟨gb235, _, none⟩) NB209_235.out _).trans (hHeld.2.2.2.2.2.2.1)))))))), ((cell_far (p := ⟨gb235, _, none⟩) NB210_235.out _).trans (((cell_far (p := ⟨gb235, _, none⟩) NB210_235.out _).trans (((cell_far (p := ⟨gb235, _, none⟩) NB210_235.out _).trans (((cell_far (p := ⟨gb235, _, none⟩) NB210_235.out _).trans (hHeld.2.2.2.2.2.2.2.1)))))))), ((cell_far (p := ⟨gb235, _, none⟩) NB210_235.out _).trans (((cell_far (p := ⟨gb235, _, none⟩) NB210_235.out _).trans (((cell_far (p := ⟨gb235, _, none⟩) NB210_235.out _).trans (((cell_far (p := ⟨gb235, _, none⟩) NB210_235.out _).trans (hHeld.2.2.2.2.2.2.2.2.1)))))))), ((cell_far (p := ⟨gb235, _, none⟩) NB210_235.out _).trans (((cell_far (p := ⟨gb235, _, none⟩) NB210_235.out _).trans (((cell_far (p := ⟨gb235, _, none⟩) NB210_235.out _).trans (((cell_far (p := ⟨gb235, _, none⟩) NB210_235.out _).trans (hHeld.2.2.2.2.2.2.2.2.2.1)))))))), ((cell_far (p := ⟨gb235, _, none⟩) NB210_235.out _).trans (((cell_far (p := ⟨gb235, _, none⟩) NB210_235.out _).trans (((cell_far (p := ⟨gb235, _, none⟩) NB210_235.out _).trans (((cell_far (p := ⟨gb235, _, none⟩) NB210_235.out _).trans (hHeld.2.2.2.2.2.2.2.2.2.2.1)))))))), ((cell_far (p := ⟨gb235, _, none⟩) (by exact hF0_) _).trans (((cell_far (p := ⟨gb235, _, none⟩) (by exact hF0_) _).trans (((cell_far (p := ⟨gb235, _, none⟩) (by exact hF0_) _).trans (((cell_far (p := ⟨gb235, _, none⟩) (by exact hF0_) _).trans (hHeld.2.2.2.2.2.2.2.2.2.2.2.1)))))))), ((cell_far (p := ⟨gb235, _, none⟩) (by exact hF0_) _).trans (((cell_far (p := ⟨gb235, _, none⟩) (by exact hF0_) _).trans (((cell_far (p := ⟨gb235, _, none⟩) (by exact hF0_) _).trans (((cell_far (p := ⟨gb235, _, none⟩) (by exact hF0_) _).trans (hHeld.2.2.2.2.2.2.2.2.2.2.2.2.1)))))))), ((cell_far (p := ⟨gb235, _, none⟩) (by exact hF0_) _).trans (((cell_far (p := ⟨gb235, _, none⟩) (by exact hF0_) _).trans (((cell_far (p := ⟨gb235, _, none⟩) (by exact hF0_) _).trans (((cell_far (p := ⟨gb235, _, none⟩) (by exact hF0_) _).trans (hHeld.2.2.2.2.2.2.2.2.2.2.2.2.2.1)))))))), ((cell_far (p := ⟨gb235, _, none⟩) (by exact hF0_) _).trans (((cell_far (p := ⟨gb235, _, none⟩) (by exact hF0_) _).trans (((cell_far (p := ⟨gb235, _, none⟩) (by exact hF0_) _).trans (((cell_far (p := ⟨gb235, _, none⟩) (by exact hF0_) _).trans (hHeld.2.2.2.2.2.2.2.2.2.2.2.2.2.2))))))))⟩ (fun hHeld => ?_)
         clear hK K
         refine pa 16 (some 17) ?_
         refine done_ (done_of HT_.out (by kernel_rfl)) ?_
        ·
         have hnb120 := NB235_195.out
         have hnc120 := NB195_235.out
         have hnb121 := NB235_203.out
         have hnc121 := NB203_235.out
         have hnb122 := NB235_209.out
         have hnc122 := NB209_235.out
         have hnb123 := NB235_210.out
         have hnc123 := NB210_235.out
         obtain ⟨hcz124_0, hcz124_1, hcz124_2, hcz124_3, hfz124_0, hfz124_1, hfz124_2, hfz124_3⟩ := kc4 BK235.out
         have hnb125 := NB203_195.out
         have hnc125 := NB195_203.out
         have hnb126 := NB203_209.out
         have hnc126 := NB209_203.out
         have hnb127 := NB203_210.out
         have hnc127 := NB210_203.out
         obtain ⟨hcz128_0, hcz128_1, hcz128_2, hcz128_3, hfz128_0, hfz128_1, hfz128_2, hfz128_3⟩ := kc4 BK203.out
         try go_wp2
         go_roundg kj21
         case measure => have := HK1.out; have := HJ10.out; have := HJ21.out; omega
         case rel => exact ⟨(ji98), (wrap64 (x10_1 + 1)), (t228), (t231), (t232), (t233), (.slice Ao104 t228.length co104), (by first | rfl | (simp; done) | (simp only [← hji98] <;> (first | rfl | simp)) | (simp [*]; done)), (by first | rfl | (simp; done) | (simp [*]; done)), H', ⟨by have := HK1.out; have := HJ10.out; have := HJ21.out; omega⟩, ⟨by (with_reducible repeat (first | apply vA | apply vN | apply vD)); exact Kd.V_mono (Kd.V_far (p := ⟨gb203, 3, none⟩) (Kd.V_far (p := ⟨gb203, 2, none⟩) (Kd.V_far (p := ⟨gb203, 1, none⟩) (Kd.V_far (p := ⟨gb203, 0, none⟩) (Kd.V_far (p := ⟨gb235, 3, none⟩) (Kd.V_far (p := ⟨gb235, 2, none⟩) (Kd.V_far (p := ⟨gb235, 1, none⟩) (Kd.V_far (p := ⟨gb235, 0, none⟩) (Kd.V_mono (Kd.V_mono HO230.out (fun k_ hk => (⟨hk, hk.2.2.2.2.2⟩ : _ ∧ k_ ≠ gb235))) (fun k_ hk => (⟨hk, hk.1.2.2.1⟩ : _ ∧ k_ ≠ gb203))) (fun _ hk => hk.1.2) (.slice Ao104 t228.length co104)) (fun _ hk => hk.1.2) (.bool t231)) (fun _ hk => hk.1.2) (.bool t232)) (fun _ hk => hk.1.2) (.int .i64 t233)) (fun _ hk => hk.2) _) (fun _ hk => hk.2) (.bool t231)) (fun _ hk => hk.2) (.bool t232)) (fun _ hk => hk.2) _) (fun _ hk => ⟨hk.1.1.1, ⟨hk.1.1.2.1, hk.1.1.2.2.1⟩⟩)⟩, ⟨by (with_reducible repeat (first | apply bN | apply bD | apply bA)); refine blk_far ?_ NB195_203.out _; (with_reducible repeat (first | apply bN | apply bD | apply bA)); refine blk_far ?_ NB195_203.out _; (with_reducible repeat (first | apply bN | apply bD | apply bA)); refine blk_far ?_ NB195_203.out _; (with_reducible repeat (first | apply bN | apply bD | apply bA)); refine blk_far ?_ NB195_203.out _; (with_reducible repeat (first | apply bN | apply bD | apply bA)); refine blk_far ?_ NB195_235.out _; (with_reducible repeat (first | apply bN | apply bD | apply bA)); refine blk_far ?_ NB195_235.out _; (with_reducible repeat (first | apply bN | apply bD | apply bA)); refine blk_far ?_ NB195_235.out _; (with_reducible repeat (first | apply bN | apply bD | apply bA)); refine blk_far ?_ NB195_235.out _; (with_reducible repeat (first | apply bN | apply bD | apply bA)); exact BK195.out⟩, ⟨by (with_reducible repeat (first | apply bN | apply bD | apply bA)); refine blk_put (cs := #[.slice Ao104 t228.length co104, .bool t231, .bool t232, .int .i64 x204003_1]) ?_ 3 _ rfl; (with_reducible repeat (first | apply bN | apply bD | apply bA)); refine blk_put (cs := #[.slice Ao104 t228.length co104, .bool t231, .bool x204002_1, .int .i64 x204003_1]) ?_ 2 _ rfl; (with_reducible repeat (first | apply bN | apply bD | apply bA)); refine blk_put (cs := #[.slice Ao104 t228.length co104, .bool x204001_1, .bool x204002_1, .int .i64 x204003_1]) ?_ 1 _ rfl; (with_reducible repeat (first | apply bN | apply bD | apply bA)); refine blk_put (cs := #[.slice (some ad227) x204000_1.length co99, .bool x204001_1, .bool x204002_1, .int .i64 x204003_1]) ?_ 0 _ rfl; (with_reducible repeat (first | apply bN | apply bD | apply bA)); refine blk_far ?_ NB203_235.out _; (with_reducible repeat (first | apply bN | apply bD | apply bA)); refine blk_far ?_ NB203_235.out _; (with_reducible repeat (first | apply bN | apply bD | apply bA)); refine blk_far ?_ NB203_235.out _; (with_reducible repeat (first | apply bN | apply bD | apply bA)); refine blk_far ?_ NB203_235.out _; (with_reducible repeat (first | apply bN | apply bD | apply bA)); exact BK203.out⟩, ⟨mH⟩⟩
        ·
         try go_wp2
         go_roundg kj21
         case measure => have := HK1.out; have := HJ10.out; have := HJ21.out; omega
         case rel => exact ⟨(ji98), (wrap64 (x10_1 + 1)), (x204000_1), (x204001_1), (x204002_1), (x204003_1), (.slice (some ad227) x204000_1.length co99), (by first | rfl | (simp; done) | (simp only [← hji98] <;> (first | rfl | simp)) | (simp [*]; done)), (by first | rfl | (simp; done) | (simp [*]; done)), H', ⟨by have := HK1.out; have := HJ10.out; have := HJ21.out; omega⟩, ⟨by (with_reducible repeat (first | apply vA | apply vN | apply vD)); exact Kd.V_mono (Kd.V_far (p := ⟨gb235, 3, none⟩) (Kd.V_far (p := ⟨gb235, 2, none⟩) (Kd.V_far (p := ⟨gb235, 1, none⟩) (Kd.V_far (p := ⟨gb235, 0, none⟩) (Kd.V_mono HO_204000.out (fun k_ hk => (⟨hk, hk.2.2.2.2.2⟩ : _ ∧ k_ ≠ gb235))) (fun _ hk => hk.2) _) (fun _ hk => hk.2) (.bool t231)) (fun _ hk => hk.2) (.bool t232)) (fun _ hk => hk.2) _) (fun _ hk => ⟨hk.1.1, ⟨hk.1.2.1, hk.1.2.2.1⟩⟩)⟩, ⟨by (with_reducible repeat (first | apply bN | apply bD | apply bA)); refine blk_far ?_ NB195_235.out _; (with_reducible repeat (first | apply bN | apply bD | apply bA)); refine blk_far ?_ NB195_235.out _; (with_reducible repeat (first | apply bN | apply bD | apply bA)); refine blk_far ?_ NB195_235.out _; (with_reducible repeat (first | apply bN | apply bD | apply bA)); refine blk_far ?_ NB195_235.out _; (with_reducible repeat (first | apply bN | apply bD | apply bA)); exact BK195.out⟩, ⟨by (with_reducible repeat (first | apply bN | apply bD | apply bA)); refine blk_far ?_ NB203_235.out _; (with_reducible repeat (first | apply bN | apply bD | apply bA)); refine blk_far ?_ NB203_235.out _; (with_reducible repeat (first | apply bN | apply bD | apply bA)); refine blk_far ?_ NB203_235.out _; (with_reducible repeat (first | apply bN | apply bD | apply bA)); refine blk_far ?_ NB203_235.out _; (with_reducible repeat (first | apply bN | apply bD | apply bA)); exact BK203.out⟩, ⟨mH⟩⟩
       rw [if_pos c42] at H
       have c42b0 : ((Int.tmod (wrap64 (rd l0 x9_1)) 29) == 0) = true := beq_iff_eq.mpr c42
       have c42b1 : ((Int.tmod (wrap64 (rd l0 x9_1)) 29) != 0) = false := bne_eq_false_iff_eq.mpr c42
       clear c42
       replace H := Option.bind_eq_some_iff.mp H
       obtain ⟨⟨t211, t214, t215, t216, t217⟩, A430, H⟩ := H
       replace H : (if 0 ≤ (Int.tmod (wrap64 (rd l0 x9_1)) a1) then (if (Int.tmod (wrap64 (rd l0 x9_1)) a1) < (t211.length : Int) then ((clinkerref05_Program.f t211 t214 t215 t216 (Int.tmod (wrap64 (rd l0 x9_1)) a1) ((rd_T62 t211 (Int.tmod (wrap64 (rd l0 x9_1)) a1)).f1) t206 t207 t208 x211000_21 x211001_21 x211002_21 x211003_21).bind fun bt219 => (if bt219.2.2.2.2 = 1 then (clinkerlaw06_Made.l0 kj21 l0 a1 (mx ji17 (wrap64 (x9_1 + 1))) (wrap64 (x10_1 + 1)) t211 t214 t215 t216) else (clinkerlaw06_Made.l0 kj21 l0 a1 (mx ji17 (wrap64 (x9_1 + 1))) (wrap64 (x10_1 + 1)) bt219.1 bt219.2.1 bt219.2.2.1 bt219.2.2.2.1))) else (none)) else (none)) = some (r1, r2, r3, r4) := H
       have A43 := Aside0.mk A430
       clear A430
       obtain ⟨ji44, hji44⟩ : ∃ j_ : Int, (Int.tmod (wrap64 (rd l0 x9_1)) a1) = j_ := ⟨_, rfl⟩
       replace H : (if 0 ≤ (ji44) then (if (ji44) < (t211.length : Int) then ((clinkerref05_Program.f t211 t214 t215 t216 (ji44) ((rd_T62 t211 (ji44)).f1) t206 t207 t208 x211000_21 x211001_21 x211002_21 x211003_21).bind fun bt219 => (if bt219.2.2.2.2 = 1 then (clinkerlaw06_Made.l0 kj21 l0 a1 (mx ji17 (wrap64 (x9_1 + 1))) (wrap64 (x10_1 + 1)) t211 t214 t215 t216) else (clinkerlaw06_Made.l0 kj21 l0 a1 (mx ji17 (wrap64 (x9_1 + 1))) (wrap64 (x10_1 + 1)) bt219.1 bt219.2.1 bt219.2.2.1 bt219.2.2.2.1))) else (none)) else (none)) = some (r1, r2, r3, r4) := by first | (rw [hji44] at H; exact H) | (simp only [hji44] at H ⊢; exact H)
       (try rw [hji44] at A43)
       by_cases c45 : 0 ≤ (ji44)
       case neg =>
        rw [if_neg c45] at H
        exact absurd H (by simp)
       rw [if_pos c45] at H
       have c45b0 : decide (0 ≤ (ji44)) = true := decide_eq_true c45
       clear c45
       by_cases c46 : (ji44) < (t211.length : Int)
       case neg =>
        rw [if_neg c46] at H
        exact absurd H (by simp)
       rw [if_pos c46] at H
       have c46b0 : decide ((ji44) < (t211.length : Int)) = true := decide_eq_true c46
       clear c46
       replace H := Option.bind_eq_some_iff.mp H
       obtain ⟨⟨t219, t222, t223, t224, t225⟩, A470, H⟩ := H
       replace H : (if t225 = 1 then (clinkerlaw06_Made.l0 kj21 l0 a1 (mx ji17 (wrap64 (x9_1 + 1))) (wrap64 (x10_1 + 1)) t211 t214 t215 t216) else (clinkerlaw06_Made.l0 kj21 l0 a1 (mx ji17 (wrap64 (x9_1 + 1))) (wrap64 (x10_1 + 1)) t219 t222 t223 t224)) = some (r1, r2, r3, r4) := H
       have A47 := Aside0.mk A470
       clear A470
       by_cases c48 : t225 = 1
       case' pos =>
        rw [if_pos c48] at H
        have c48b0 : (t225 == 1) = true := beq_iff_eq.mpr c48
        have c48b1 : (t225 != 1) = false := bne_eq_false_iff_eq.mpr c48
        clear c48
        obtain ⟨ji49, hji49⟩ : ∃ j_ : Int, (mx ji17 (wrap64 (x9_1 + 1))) = j_ := ⟨_, rfl⟩
        replace H : (clinkerlaw06_Made.l0 kj21 l0 a1 ji49 (wrap64 (x10_1 + 1)) t211 t214 t215 t216) = some (r1, r2, r3, r4) := by first | (rw [hji49] at H; exact H) | (simp only [hji49] at H ⊢; exact H)
        (try rw [hji49] at A43)
        (try rw [hji49] at A47)
        have hji49_ : (if ji17 < (wrap64 (x9_1 + 1)) then (wrap64 (x9_1 + 1)) else ji17) = ji49 := hji49
        have H' := Aside0.mk H
        clear H
        have hnb50 := NB203_195.out
        have hnc50 := NB195_203.out
        have hnb51 := NB203_209.out
        have hnc51 := NB209_203.out
        have hnb52 := NB203_210.out
        have hnc52 := NB210_203.out
        obtain ⟨hcz53_0, hcz53_1, hcz53_2, hcz53_3, hfz53_0, hfz53_1, hfz53_2, hfz53_3⟩ := kc4 BK203.out
        obtain ⟨Ao54, co54, eo54⟩ := Kd.V_slice HO_204000.out
        subst eo54
        try go_wp2_with (first | ((with_reducible refine gate_callee (f := 25) rfl ?_); refine goesL_ (some 73) rfl rfl Try.func25 (by kernel_rfl) rfl #[.agg #[.slice Ao54 x204000_1.length co54, .bool x204001_1, .bool x204002_1, .int .i64 x204003_1], .int .i64 (ji44), .agg #[.int .i64 0, .string (⟨#[]⟩ : ByteArray), .string (⟨#[]⟩ : ByteArray), .int .i64 0]] rfl (by (try simp only [List.map_toArray, List.map_cons, List.map_nil]); first | done | (simp only [hji44]; rfl) | rfl | (simp only [List.length_drop, List.length_take]; rfl)) ?_; (with_reducible refine (clinkerref05_Erase.calls _ _ x204000_1 x204001_1 x204002_1 x204003_1 (ji44) 0 (⟨#[]⟩ : ByteArray) (⟨#[]⟩ : ByteArray) 0 t211 t214 t215 t216 t217 _ ?side1 ?side2 A43.out).mono ?_); (case side1 => repeat (first | exact (Kd.V_reads' HO_204000.out).2.2 | (with_reducible refine Kd.C_alloc ?_ _) | (with_reducible refine Kd.C_drewN ?_ _) | (with_reducible refine Kd.C_drew ?_))); (case side2 => exact (Kd.V_reads' HO_204000.out).2.1); rintro e w55 ⟨v212, rfl, ho0, hb⟩; refine ⟨_, rfl, ?_⟩; replace HO_204000 := Aside0.mk (Kd.V_below (mV HO_204000.out) hb); have HO213 := Aside0.mk (Kd.V_lower (Kd.V_mono (ok' := fun k_ => (w.heap.size ≤ k_) ∧ k_ ≠ gb195 ∧ k_ ≠ gb203 ∧ k_ ≠ gb209 ∧ k_ ≠ gb210) ho0 (fun k_ hk_ => ⟨(Nat.le_trans bsz hk_), (Kd.freshB (g := gb195) (o := .cells #[.slice none 0 0, .bool false, .bool false, .int .i64 0] 32 (0, 0)) (mB BK195.out) k_ hk_), (Kd.freshB (g := gb203) (o := .cells #[.slice Ao54 x204000_1.length co54, .bool x204001_1, .bool x204002_1, .int .i64 x204003_1] 32 (0, 0)) (mB BK203.out) k_ hk_), (Kd.freshB (g := gb209) (o := .cells #[.bool t206, .string t207, .string t208] 54 (0, 0)) (mB BK209.out) k_ hk_), (Kd.freshB (g := gb210) (o := .cells #[.int .i64 x211000_21, .string x211001_21, .string x211002_21, .int .i64 x211003_21] 57 (0, 0)) (mB BK210.out) k_ hk_)⟩)) bsz); replace BK195 := Aside0.mk (bb BK195.out hb); replace BK203 := Aside0.mk (bb BK203.out hb); replace BK209 := Aside0.mk (bb BK209.out hb); replace BK210 := Aside0.mk (bb BK210.out hb); replace HB := Aside0.mk (bst hb); (try clear hb); (try clear hb2); (try clear hk); (try clear hi); (try clear ho0); obtain ⟨Ao56, co56, eo56⟩ := Kd.V_slice HO213.out; subst eo56; obtain ⟨hcz57_0, hcz57_1, hcz57_2, hcz57_3, hfz57_0, hfz57_1, hfz57_2, hfz57_3⟩ := kc4 BK203.out))
       case' neg =>
        rw [if_neg c48] at H
        have c48b0 : (t225 == 1) = false := beq_eq_false_iff_ne.mpr c48
        have c48b1 : (t225 != 1) = true := bne_iff_ne.mpr c48
        obtain ⟨ji68, hji68⟩ : ∃ j_ : Int, (mx ji17 (wrap64 (x9_1 + 1))) = j_ := ⟨_, rfl⟩
        replace H : (clinkerlaw06_Made.l0 kj21 l0 a1 ji68 (wrap64 (x10_1 + 1)) t219 t222 t223 t224) = some (r1, r2, r3, r4) := by first | (rw [hji68] at H; exact H) | (simp only [hji68] at H ⊢; exact H)
        (try rw [hji68] at A43)
        (try rw [hji68] at A47)
        have hji68_ : (if ji17 < (wrap64 (x9_1 + 1)) then (wrap64 (x9_1 + 1)) else ji17) = ji68 := hji68
        have H' := Aside0.mk H
        clear H
        have hnb69 := NB203_195.out
        have hnc69 := NB195_203.out
        have hnb70 := NB203_209.out
        have hnc70 := NB209_203.out
        have hnb71 := NB203_210.out
        have hnc71 := NB210_203.out
        obtain ⟨hcz72_0, hcz72_1, hcz72_2, hcz72_3, hfz72_0, hfz72_1, hfz72_2, hfz72_3⟩ := kc4 BK203.out
        obtain ⟨Ao54, co54, eo73⟩ := Kd.V_slice HO_204000.out
        subst eo73
        try go_wp2_with (first | ((with_reducible refine gate_callee (f := 25) rfl ?_); refine goesL_ (some 73) rfl rfl Try.func25 (by kernel_rfl) rfl #[.agg #[.slice Ao54 x204000_1.length co54, .bool x204001_1, .bool x204002_1, .int .i64 x204003_1], .int .i64 (ji44), .agg #[.int .i64 0, .string (⟨#[]⟩ : ByteArray), .string (⟨#[]⟩ : ByteArray), .int .i64 0]] rfl (by (try simp only [List.map_toArray, List.map_cons, List.map_nil]); first | done | (simp only [hji44]; rfl) | rfl | (simp only [List.length_drop, List.length_take]; rfl)) ?_; (with_reducible refine (clinkerref05_Erase.calls _ _ x204000_1 x204001_1 x204002_1 x204003_1 (ji44) 0 (⟨#[]⟩ : ByteArray) (⟨#[]⟩ : ByteArray) 0 t211 t214 t215 t216 t217 _ ?side1 ?side2 A43.out).mono ?_); (case side1 => repeat (first | exact (Kd.V_reads' HO_204000.out).2.2 | (with_reducible refine Kd.C_alloc ?_ _) | (with_reducible refine Kd.C_drewN ?_ _) | (with_reducible refine Kd.C_drew ?_))); (case side2 => exact (Kd.V_reads' HO_204000.out).2.1); rintro e w55 ⟨v212, rfl, ho0, hb⟩; refine ⟨_, rfl, ?_⟩; replace HO_204000 := Aside0.mk (Kd.V_below (mV HO_204000.out) hb); have HO213 := Aside0.mk (Kd.V_lower (Kd.V_mono (ok' := fun k_ => (w.heap.size ≤ k_) ∧ k_ ≠ gb195 ∧ k_ ≠ gb203 ∧ k_ ≠ gb209 ∧ k_ ≠ gb210) ho0 (fun k_ hk_ => ⟨(Nat.le_trans bsz hk_), (Kd.freshB (g := gb195) (o := .cells #[.slice none 0 0, .bool false, .bool false, .int .i64 0] 32 (0, 0)) (mB BK195.out) k_ hk_), (Kd.freshB (g := gb203) (o := .cells #[.slice Ao54 x204000_1.length co54, .bool x204001_1, .bool x204002_1, .int .i64 x204003_1] 32 (0, 0)) (mB BK203.out) k_ hk_), (Kd.freshB (g := gb209) (o := .cells #[.bool t206, .string t207, .string t208] 54 (0, 0)) (mB BK209.out) k_ hk_), (Kd.freshB (g := gb210) (o := .cells #[.int .i64 x211000_21, .string x211001_21, .string x211002_21, .int .i64 x211003_21] 57 (0, 0)) (mB BK210.out) k_ hk_)⟩)) bsz); replace BK195 := Aside0.mk (bb BK195.out hb); replace BK203 := Aside0.mk (bb BK203.out hb); replace BK209 := Aside0.mk (bb BK209.out hb); replace BK210 := Aside0.mk (bb BK210.out hb); replace HB := Aside0.mk (bst hb); (try clear hb); (try clear hb2); (try clear hk); (try clear hi); (try clear ho0); obtain ⟨Ao56, co56, eo75⟩ := Kd.V_slice HO213.out; subst eo75; obtain ⟨hcz76_0, hcz76_1, hcz76_2, hcz76_3, hfz76_0, hfz76_1, hfz76_2, hfz76_3⟩ := kc4 BK203.out))
       all_goals
        have n0_ : Aside0 (Kd.V k62 62 ((((w55.setCell ⟨gb203, 0, none⟩ (.slice Ao56 t211.length co56)).setCell ⟨gb203, 1, none⟩ (.bool t214)).setCell ⟨gb203, 2, none⟩ (.bool t215)).setCell ⟨gb203, 3, none⟩ (.int .i64 t216)) w.heap.size (fun k_ => (w.heap.size ≤ k_) ∧ k_ ≠ gb195 ∧ k_ ≠ gb203 ∧ k_ ≠ gb209 ∧ k_ ≠ gb210) (.slice Ao54 x204000_1.length co54) x204000_1) := ⟨by (with_reducible repeat (first | apply vA | apply vN | apply vD)); exact Kd.V_mono (Kd.V_far (p := ⟨gb203, 3, none⟩) (Kd.V_far (p := ⟨gb203, 2, none⟩) (Kd.V_far (p := ⟨gb203, 1, none⟩) (Kd.V_far (p := ⟨gb203, 0, none⟩) (Kd.V_mono HO_204000.out (fun k_ hk => (⟨hk, hk.2.2.1⟩ : _ ∧ k_ ≠ gb203))) (fun _ hk => hk.2) _) (fun _ hk => hk.2) (.bool t214)) (fun _ hk => hk.2) (.bool t215)) (fun _ hk => hk.2) _) (fun _ hk => ⟨hk.1.1, ⟨hk.1.2.1, ⟨hk.1.2.2.1, ⟨hk.1.2.2.2.1, hk.1.2.2.2.2⟩⟩⟩⟩)⟩
        have n1_ : Aside0 (Kd.V k62 62 ((((w55.setCell ⟨gb203, 0, none⟩ (.slice Ao56 t211.length co56)).setCell ⟨gb203, 1, none⟩ (.bool t214)).setCell ⟨gb203, 2, none⟩ (.bool t215)).setCell ⟨gb203, 3, none⟩ (.int .i64 t216)) w.heap.size (fun k_ => (w.heap.size ≤ k_) ∧ k_ ≠ gb195 ∧ k_ ≠ gb203 ∧ k_ ≠ gb209 ∧ k_ ≠ gb210) (.slice Ao56 t211.length co56) t211) := ⟨by (with_reducible repeat (first | apply vA | apply vN | apply vD)); exact Kd.V_mono (Kd.V_far (p := ⟨gb203, 3, none⟩) (Kd.V_far (p := ⟨gb203, 2, none⟩) (Kd.V_far (p := ⟨gb203, 1, none⟩) (Kd.V_far (p := ⟨gb203, 0, none⟩) (Kd.V_mono HO213.out (fun k_ hk => (⟨hk, hk.2.2.1⟩ : _ ∧ k_ ≠ gb203))) (fun _ hk => hk.2) _) (fun _ hk => hk.2) (.bool t214)) (fun _ hk => hk.2) (.bool t215)) (fun _ hk => hk.2) _) (fun _ hk => ⟨hk.1.1, ⟨hk.1.2.1, ⟨hk.1.2.2.1, ⟨hk.1.2.2.2.1, hk.1.2.2.2.2⟩⟩⟩⟩)⟩
        have n2_ : Aside0 (((((w55.setCell ⟨gb203, 0, none⟩ (.slice Ao56 t211.length co56)).setCell ⟨gb203, 1, none⟩ (.bool t214)).setCell ⟨gb203, 2, none⟩ (.bool t215)).setCell ⟨gb203, 3, none⟩ (.int .i64 t216)).heap[gb195]? = some (.cells #[.slice none 0 0, .bool false, .bool false, .int .i64 0] 32 (0, 0))) := ⟨by (with_reducible repeat (first | apply bN | apply bD | apply bA)); refine blk_far ?_ NB195_203.out _; (with_reducible repeat (first | apply bN | apply bD | apply bA)); refine blk_far ?_ NB195_203.out _; (with_reducible repeat (first | apply bN | apply bD | apply bA)); refine blk_far ?_ NB195_203.out _; (with_reducible repeat (first | apply bN | apply bD | apply bA)); refine blk_far ?_ NB195_203.out _; (with_reducible repeat (first | apply bN | apply bD | apply bA)); exact BK195.out⟩
        have n3_ : Aside0 (((((w55.setCell ⟨gb203, 0, none⟩ (.slice Ao56 t211.length co56)).setCell ⟨gb203, 1, none⟩ (.bool t214)).setCell ⟨gb203, 2, none⟩ (.bool t215)).setCell ⟨gb203, 3, none⟩ (.int .i64 t216)).heap[gb203]? = some (.cells #[.slice Ao56 t211.length co56, .bool t214, .bool t215, .int .i64 t216] 32 (0, 0))) := ⟨by (with_reducible repeat (first | apply bN | apply bD | apply bA)); refine blk_put (cs := #[.slice Ao56 t211.length co56, .bool t214, .bool t215, .int .i64 x204003_1]) ?_ 3 _ rfl; (with_reducible repeat (first | apply bN | apply bD | apply bA)); refine blk_put (cs := #[.slice Ao56 t211.length co56, .bool t214, .bool x204002_1, .int .i64 x204003_1]) ?_ 2 _ rfl; (with_reducible repeat (first | apply bN | apply bD | apply bA)); refine blk_put (cs := #[.slice Ao56 t211.length co56, .bool x204001_1, .bool x204002_1, .int .i64 x204003_1]) ?_ 1 _ rfl; (with_reducible repeat (first | apply bN | apply bD | apply bA)); refine blk_put (cs := #[.slice Ao54 x204000_1.length co54, .bool x204001_1, .bool x204002_1, .int .i64 x204003_1]) ?_ 0 _ rfl; (with_reducible repeat (first | apply bN | apply bD | apply bA)); exact BK203.out⟩
        have n4_ : Aside0 (((((w55.setCell ⟨gb203, 0, none⟩ (.slice Ao56 t211.length co56)).setCell ⟨gb203, 1, none⟩ (.bool t214)).setCell ⟨gb203, 2, none⟩ (.bool t215)).setCell ⟨gb203, 3, none⟩ (.int .i64 t216)).heap[gb209]? = some (.cells #[.bool t206, .string t207, .string t208] 54 (0, 0))) := ⟨by (with_reducible repeat (first | apply bN | apply bD | apply bA)); refine blk_far ?_ NB209_203.out _; (with_reducible repeat (first | apply bN | apply bD | apply bA)); refine blk_far ?_ NB209_203.out _; (with_reducible repeat (first | apply bN | apply bD | apply bA)); refine blk_far ?_ NB209_203.out _; (with_reducible repeat (first | apply bN | apply bD | apply bA)); refine blk_far ?_ NB209_203.out _; (with_reducible repeat (first | apply bN | apply bD | apply bA)); exact BK209.out⟩
        have n5_ : Aside0 (((((w55.setCell ⟨gb203, 0, none⟩ (.slice Ao56 t211.length co56)).setCell ⟨gb203, 1, none⟩ (.bool t214)).setCell ⟨gb203, 2, none⟩ (.bool t215)).setCell ⟨gb203, 3, none⟩ (.int .i64 t216)).heap[gb210]? = some (.cells #[.int .i64 x211000_21, .string x211001_21, .string x211002_21, .int .i64 x211003_21] 57 (0, 0))) := ⟨by (with_reducible repeat (first | apply bN | apply bD | apply bA)); refine blk_far ?_ NB210_203.out _; (with_reducible repeat (first | apply bN | apply bD | apply bA)); refine blk_far ?_ NB210_203.out _; (with_reducible repeat (first | apply bN | apply bD | apply bA)); refine blk_far ?_ NB210_203.out _; (with_reducible repeat (first | apply bN | apply bD | apply bA)); refine blk_far ?_ NB210_203.out _; (with_reducible repeat (first | apply bN | apply bD | apply bA)); exact BK210.out⟩
        have n6_ : Aside0 (Below w.heap.size w ((((w55.setCell ⟨gb203, 0, none⟩ (.slice Ao56 t211.length co56)).setCell ⟨gb203, 1, none⟩ (.bool t214)).setCell ⟨gb203, 2, none⟩ (.bool t215)).setCell ⟨gb203, 3, none⟩ (.int .i64 t216))) := ⟨mH⟩
        (try clear HO_204000)
        (try clear HO213)
        (try clear BK195)
        (try clear BK203)
        (try clear BK209)
        (try clear BK210)
        (try clear HB)
        generalize ((((w55.setCell ⟨gb203, 0, none⟩ (.slice Ao56 t211.length co56)).setCell ⟨gb203, 1, none⟩ (.bool t214)).setCell ⟨gb203, 2, none⟩ (.bool t215)).setCell ⟨gb203, 3, none⟩ (.int .i64 t216)) = w58 at n0_ n1_ n2_ n3_ n4_ n5_ n6_ ⊢
        have HO_204000 := n0_
        have HO213 := n1_
        have BK195 := n2_
        have BK203 := n3_
        have BK209 := n4_
        have BK210 := n5_
        have HB := n6_
        clear n0_ n1_ n2_ n3_ n4_ n5_ n6_
        replace HO_204000 := Aside0.mk (vD HO_204000.out)
        replace HO213 := Aside0.mk (vD HO213.out)
        replace BK195 := Aside0.mk (bD BK195.out)
        replace BK203 := Aside0.mk (bD BK203.out)
        replace BK209 := Aside0.mk (bD BK209.out)
        replace BK210 := Aside0.mk (bD BK210.out)
        replace HB := Aside0.mk (lD HB.out)
        have p218 : 0 ≤ ((ji44) : Int) := of_decide_eq_true (by first | (with_reducible assumption) | assumption)
        have q218 : (ji44) < (t211.length : Int) := of_decide_eq_true (by first | (with_reducible assumption) | assumption)
        obtain ⟨ad218, A218_0, c218_0, e218, hx218_0, hx218_1, hx218_2, hx218_3, hl218_0, hi218_0⟩ := at_T62 (Kd.V_reads' HO213.out).2.2 (ji44) p218 q218
        cases e218
        obtain ⟨ce218, hce218, hMe218, hcc218⟩ := Kd.V_get HO213.out z62 (ji44) p218 (by first | exact q218 | exact of_decide_eq_true (by first | (with_reducible assumption) | assumption) | (have e_ := (Kd.V_reads' HO213.out).1; omega))
        obtain ⟨ua218_0, uc218_0, rfl, ul218_0, ge218_0⟩ := k62_openF hMe218
        have hv218_0 := hcc218 0 _ rfl
        rw [Nat.add_zero] at hv218_0
        replace hv218_0 := Option.some.inj (hv218_0.symm.trans hx218_0)
        injection hv218_0 with hva_ hvn_ hvc_
        rw [hva_] at ge218_0
        rw [hvc_] at ul218_0
        have HL218_0 := Aside0.mk (show Kd.V k54 54 _ w.heap.size _ _ ((rd_T62 t211 (ji44)).f0) from Kd.V_mk ul218_0 ge218_0)
        clear hva_ hvn_ hvc_ ge218_0 ul218_0
        clear hcc218 hce218
        have HR218_0 := Aside0.mk hi218_0
        have HC218_0 := Aside0.mk hl218_0
        clear hi218_0 hl218_0
        replace p218 := eq_true p218
        replace q218 := eq_true q218
        refine start_ (n := 17) (S := fun w' => w'.cell? ⟨gb203, 0, none⟩ = some (.slice (some ad218) t211.length co56) ∧ w'.cell? ⟨gb203, 1, none⟩ = some (.bool t214) ∧ w'.cell? ⟨gb203, 2, none⟩ = some (.bool t215) ∧ w'.cell? ⟨gb203, 3, none⟩ = some (.int .i64 t216) ∧ w'.cell? ⟨gb209, 0, none⟩ = some (.bool t206) ∧ w'.cell? ⟨gb209, 1, none⟩ = some (.string t207) ∧ w'.cell? ⟨gb209, 2, none⟩ = some (.string t208) ∧ w'.cell? ⟨gb210, 0, none⟩ = some (.int .i64 x211000_21) ∧ w'.cell? ⟨gb210, 1, none⟩ = some (.string x211001_21) ∧ w'.cell? ⟨gb210, 2, none⟩ = some (.string x211002_21) ∧ w'.cell? ⟨gb210, 3, none⟩ = some (.int .i64 x211003_21) ∧ w'.cell? (ad218.add (((ji44)).toNat * 4)) = some (.slice A218_0 ((rd_T62 t211 (ji44)).f0).length c218_0) ∧ w'.cell? ⟨(ad218.add (((ji44)).toNat * 4)).block, (ad218.add (((ji44)).toNat * 4)).off + 1, none⟩ = some (.int .i64 ((rd_T62 t211 (ji44)).f1)) ∧ w'.cell? ⟨(ad218.add (((ji44)).toNat * 4)).block, (ad218.add (((ji44)).toNat * 4)).off + 2, none⟩ = some (.int .i64 ((rd_T62 t211 (ji44)).f2)) ∧ w'.cell? ⟨(ad218.add (((ji44)).toNat * 4)).block, (ad218.add (((ji44)).toNat * 4)).off + 3, none⟩ = some (.bool ((rd_T62 t211 (ji44)).f3))) (ds := []) q0k13 (by kernel_rfl) rfl rfl ⟨(blk_cell BK203.out 0).trans rfl, (blk_cell BK203.out 1).trans rfl, (blk_cell BK203.out 2).trans rfl, (blk_cell BK203.out 3).trans rfl, (blk_cell BK209.out 0).trans rfl, (blk_cell BK209.out 1).trans rfl, (blk_cell BK209.out 2).trans rfl, (blk_cell BK210.out 0).trans rfl, (blk_cell BK210.out 1).trans rfl, (blk_cell BK210.out 2).trans rfl, (blk_cell BK210.out 3).trans rfl, hx218_0, hx218_1, hx218_2, hx218_3⟩ (fun hHeld => ?_); refine with_tabW clinkerlaw06_Made.tab15 clinkerlaw06_Made.bits15 (fun HT_ HW_ => ?_)
        generalize w58.drew = w59 at HO_204000 HO213 BK195 BK203 BK209 BK210 HB HL218_0 HR218_0 hx218_0 hx218_1 hx218_2 hx218_3 hHeld ⊢
        refine pa 1 (some 78) ?_
        refine pa 2 (some 79) ?_
        refine pa 4 (some 81) ?_
        refine ta 0 (some 77) hHeld ?_
        refine ta 3 (some 80) hHeld ?_
        refine pa 5 (some 82) ?_
        refine pa 6 (some 83) ?_
        refine ta 7 (some 84) hHeld ?_
        refine ta 8 (some 85) hHeld ?_
        refine ta 9 (some 86) hHeld ?_
        refine join_ (σ := Value × Nat) 2 q1k13 (fun s_ => [(87, .tuple #[.agg #[s_.1, .bool t222, .bool t223, .int .i64 t224], .int .i64 t225]), (16, .pointer (some ⟨s_.2, 0, none⟩)), (76, .tuple #[.agg #[s_.1, .bool t222, .bool t223, .int .i64 t224], .int .i64 t225]), (88, .agg #[s_.1, .bool t222, .bool t223, .int .i64 t224]), (89, .int .i64 t225)]) (fun s_ w' => (w'.cell? ⟨gb203, 0, none⟩ = some (.slice (some ad218) t211.length co56) ∧ w'.cell? ⟨gb203, 1, none⟩ = some (.bool t214) ∧ w'.cell? ⟨gb203, 2, none⟩ = some (.bool t215) ∧ w'.cell? ⟨gb203, 3, none⟩ = some (.int .i64 t216) ∧ w'.cell? ⟨gb209, 0, none⟩ = some (.bool t206) ∧ w'.cell? ⟨gb209, 1, none⟩ = some (.string t207) ∧ w'.cell? ⟨gb209, 2, none⟩ = some (.string t208) ∧ w'.cell? ⟨gb210, 0, none⟩ = some (.int .i64 x211000_21) ∧ w'.cell? ⟨gb210, 1, none⟩ = some (.string x211001_21) ∧ w'.cell? ⟨gb210, 2, none⟩ = some (.string x211002_21) ∧ w'.cell? ⟨gb210, 3, none⟩ = some (.int .i64 x211003_21) ∧ w'.cell? (ad218.add (((ji44)).toNat * 4)) = some (.slice A218_0 ((rd_T62 t211 (ji44)).f0).length c218_0) ∧ w'.cell? ⟨(ad218.add (((ji44)).toNat * 4)).block, (ad218.add (((ji44)).toNat * 4)).off + 1, none⟩ = some (.int .i64 ((rd_T62 t211 (ji44)).f1)) ∧ w'.cell? ⟨(ad218.add (((ji44)).toNat * 4)).block, (ad218.add (((ji44)).toNat * 4)).off + 2, none⟩ = some (.int .i64 ((rd_T62 t211 (ji44)).f2)) ∧ w'.cell? ⟨(ad218.add (((ji44)).toNat * 4)).block, (ad218.add (((ji44)).toNat * 4)).off + 3, none⟩ = some (.bool ((rd_T62 t211 (ji44)).f3))) ∧ (Kd.V k54 54 w' w.heap.size (fun k_ => (w.heap.size ≤ k_) ∧ k_ ≠ gb195 ∧ k_ ≠ gb203 ∧ k_ ≠ gb209 ∧ k_ ≠ gb210 ∧ k_ ≠ s_.2) (.slice A218_0 ((rd_T62 t211 (ji44)).f0).length c218_0) ((rd_T62 t211 (ji44)).f0)) ∧ (Kd.V k62 62 w' w.heap.size (fun k_ => (w.heap.size ≤ k_) ∧ k_ ≠ gb195 ∧ k_ ≠ gb203 ∧ k_ ≠ gb209 ∧ k_ ≠ gb210 ∧ k_ ≠ s_.2) (.slice (some ad218) t211.length co56) t211) ∧ (Kd.V k62 62 w' w.heap.size (fun k_ => (w.heap.size ≤ k_) ∧ k_ ≠ gb195 ∧ k_ ≠ gb203 ∧ k_ ≠ gb209 ∧ k_ ≠ gb210 ∧ k_ ≠ s_.2) s_.1 t219) ∧ (Kd.V k62 62 w' w.heap.size (fun k_ => (w.heap.size ≤ k_) ∧ k_ ≠ gb195 ∧ k_ ≠ gb203 ∧ k_ ≠ gb209 ∧ k_ ≠ gb210 ∧ k_ ≠ s_.2) (.slice Ao54 x204000_1.length co54) x204000_1) ∧ (w'.heap[gb195]? = some (.cells #[.slice none 0 0, .bool false, .bool false, .int .i64 0] 32 (0, 0))) ∧ (w'.heap[gb203]? = some (.cells #[.slice (some ad218) t211.length co56, .bool t214, .bool t215, .int .i64 t216] 32 (0, 0))) ∧ (w'.heap[gb209]? = some (.cells #[.bool t206, .string t207, .string t208] 54 (0, 0))) ∧ (w'.heap[gb210]? = some (.cells #[.int .i64 x211000_21, .string x211001_21, .string x211002_21, .int .i64 x211003_21] 57 (0, 0))) ∧ (w'.heap[s_.2]? = some (.cells #[.slice none 0 0, .bool false, .bool false, .int .i64 0] 32 (0, 0))) ∧ (w.heap.size ≤ s_.2) ∧ (w.heap.size ≤ s_.2) ∧ (gb195 ≠ s_.2) ∧ (s_.2 ≠ gb195) ∧ (gb203 ≠ s_.2) ∧ (s_.2 ≠ gb203) ∧ (gb209 ≠ s_.2) ∧ (s_.2 ≠ gb209) ∧ (gb210 ≠ s_.2) ∧ (s_.2 ≠ gb210) ∧ (Below w.heap.size w w')) ?_ ?_
        rotate_left
        ·
         intro hCont
         refine two_ (i := 10) (j := 14) (Ni := some 87) (Nj := some 16) q2k13 q3k13 rfl rfl rfl rfl (two_of HT_.out (by kernel_rfl)) (by decide) (by decide) (fun K hK => ?_) (fun K hK => ?_)
         ·
          skip
          refine goes_ Try.func26 (by kernel_rfl) rfl #[.agg #[.slice (some ad218) t211.length co56, .bool t214, .bool t215, .int .i64 t216], .int .i64 (ji44), .int .i64 ((rd_T62 t211 (ji44)).f1), .agg #[.bool t206, .string t207, .string t208], .agg #[.int .i64 x211000_21, .string x211001_21, .string x211002_21, .int .i64 x211003_21]] (by rfl) rfl rfl (by (try simp only [List.map_toArray, List.map_cons, List.map_nil]); first | done | (simp only [hji44]; rfl) | rfl | (simp only [List.length_drop, List.length_take]; rfl)) ?_
          with_reducible refine (clinkerref05_Program.calls _ _ t211 t214 t215 t216 (ji44) ((rd_T62 t211 (ji44)).f1) t206 t207 t208 x211000_21 x211001_21 x211002_21 x211003_21 t219 t222 t223 t224 t225 _ ?side1 ?side2 A47.out).mono ?_
          (case side1 => repeat (first | exact (Kd.V_reads' HO213.out).2.2 | (with_reducible refine Kd.C_alloc ?_ _) | (with_reducible refine Kd.C_drewN ?_ _) | (with_reducible refine Kd.C_drew ?_)))
          (case side2 => exact (Kd.V_reads' HO213.out).2.1)
          rintro e w60 ⟨v220, rfl, ho0, hb⟩
          have HS11_ := (hb.cell (World.block_lt_of_cell? _ _ (hHeld.2.2.2.2.2.2.2.2.2.2.2.1))).trans (hHeld.2.2.2.2.2.2.2.2.2.2.2.1)
          have HS12_ := (hb.cell (World.block_lt_of_cell? _ _ (hHeld.2.2.2.2.2.2.2.2.2.2.2.2.1))).trans (hHeld.2.2.2.2.2.2.2.2.2.2.2.2.1)
          have HS13_ := (hb.cell (World.block_lt_of_cell? _ _ (hHeld.2.2.2.2.2.2.2.2.2.2.2.2.2.1))).trans (hHeld.2.2.2.2.2.2.2.2.2.2.2.2.2.1)
          have HS14_ := (hb.cell (World.block_lt_of_cell? _ _ (hHeld.2.2.2.2.2.2.2.2.2.2.2.2.2.2))).trans (hHeld.2.2.2.2.2.2.2.2.2.2.2.2.2.2)
          refine ⟨_, rfl, ?_⟩
          replace HO_204000 := Aside0.mk (Kd.V_below (mV HO_204000.out) hb)
          replace HO213 := Aside0.mk (Kd.V_below (mV HO213.out) hb)
          replace HL218_0 := Aside0.mk (Kd.V_below (mV HL218_0.out) hb)
          have HO221 := Aside0.mk (Kd.V_lower (Kd.V_mono (ok' := fun k_ => (w.heap.size ≤ k_) ∧ k_ ≠ gb195 ∧ k_ ≠ gb203 ∧ k_ ≠ gb209 ∧ k_ ≠ gb210) ho0 (fun k_ hk_ => ⟨(Nat.le_trans bsz hk_), (Kd.freshB (g := gb195) (o := .cells #[.slice none 0 0, .bool false, .bool false, .int .i64 0] 32 (0, 0)) (mB BK195.out) k_ hk_), (Kd.freshB (g := gb203) (o := .cells #[.slice (some ad218) t211.length co56, .bool t214, .bool t215, .int .i64 t216] 32 (0, 0)) (mB BK203.out) k_ hk_), (Kd.freshB (g := gb209) (o := .cells #[.bool t206, .string t207, .string t208] 54 (0, 0)) (mB BK209.out) k_ hk_), (Kd.freshB (g := gb210) (o := .cells #[.int .i64 x211000_21, .string x211001_21, .string x211002_21, .int .i64 x211003_21] 57 (0, 0)) (mB BK210.out) k_ hk_)⟩)) bsz)
          replace BK195 := Aside0.mk (bb BK195.out hb)
          replace BK203 := Aside0.mk (bb BK203.out hb)
          replace BK209 := Aside0.mk (bb BK209.out hb)
          replace BK210 := Aside0.mk (bb BK210.out hb)
          replace HR218_0 := Aside0.mk (Kd.C_below (by repeat (first | (with_reducible exact HR218_0.out) | (with_reducible refine Kd.C_alloc ?_ _) | (with_reducible refine Kd.C_drewN ?_ _) | (with_reducible refine Kd.C_drew ?_) | exact HR218_0.out)) hb)
          replace HB := Aside0.mk (bst hb)
          (try clear hb)
          (try clear hb2)
          (try clear hk)
          (try clear hi)
          (try clear ho0)
          refine hK.out _ _ ⟨(blk_cell BK203.out 0).trans rfl, (blk_cell BK203.out 1).trans rfl, (blk_cell BK203.out 2).trans rfl, (blk_cell BK203.out 3).trans rfl, (blk_cell BK209.out 0).trans rfl, (blk_cell BK209.out 1).trans rfl, (blk_cell BK209.out 2).trans rfl, (blk_cell BK210.out 0).trans rfl, (blk_cell BK210.out 1).trans rfl, (blk_cell BK210.out 2).trans rfl, (blk_cell BK210.out 3).trans rfl, HS11_, HS12_, HS13_, HS14_⟩ (fun hHeld => ?_)
          clear hK K
          refine na (some 87) ?_
          refine pa 11 (some 76) ?_
          refine pa 12 (some 88) ?_
          refine pa 13 (some 89) ?_
          refine one_ (i := 14) (N := some 16) q1k13 rfl rfl (one_of HT_.out (by kernel_rfl)) (by decide) (fun K hK => ?_)
          refine box_step ?hg (N := 16) ?hd (cs := #[.slice none 0 0, .bool false, .bool false, .int .i64 0]) (t := 32) ?hr ?_; (case hd => rfl); (case hg => rfl); (case hr => first | (go_simp; done) | (go_simp; rfl))
          intro gb226 hg w61 hbox hb
          have HS11_ := (hb.cell (World.block_lt_of_cell? _ _ (hHeld.2.2.2.2.2.2.2.2.2.2.2.1))).trans (hHeld.2.2.2.2.2.2.2.2.2.2.2.1)
          have HS12_ := (hb.cell (World.block_lt_of_cell? _ _ (hHeld.2.2.2.2.2.2.2.2.2.2.2.2.1))).trans (hHeld.2.2.2.2.2.2.2.2.2.2.2.2.1)
          have HS13_ := (hb.cell (World.block_lt_of_cell? _ _ (hHeld.2.2.2.2.2.2.2.2.2.2.2.2.2.1))).trans (hHeld.2.2.2.2.2.2.2.2.2.2.2.2.2.1)
          have HS14_ := (hb.cell (World.block_lt_of_cell? _ _ (hHeld.2.2.2.2.2.2.2.2.2.2.2.2.2.2))).trans (hHeld.2.2.2.2.2.2.2.2.2.2.2.2.2.2)
          replace HO_204000 := Aside0.mk (Kd.V_below (Kd.V_elderB (mV HO_204000.out) gb226 (Nat.le_of_eq hg.symm)) hb)
          replace HO213 := Aside0.mk (Kd.V_below (Kd.V_elderB (mV HO213.out) gb226 (Nat.le_of_eq hg.symm)) hb)
          replace HL218_0 := Aside0.mk (Kd.V_below (Kd.V_elderB (mV HL218_0.out) gb226 (Nat.le_of_eq hg.symm)) hb)
          replace HO221 := Aside0.mk (Kd.V_below (Kd.V_elderB (mV HO221.out) gb226 (Nat.le_of_eq hg.symm)) hb)
          replace HR218_0 := Aside0.mk (Kd.C_below (by repeat (first | (with_reducible exact HR218_0.out) | (with_reducible refine Kd.C_alloc ?_ _) | (with_reducible refine Kd.C_drewN ?_ _) | (with_reducible refine Kd.C_drew ?_) | exact HR218_0.out)) hb)
          have BK226 := Aside0.mk (hbox)
          have GW226 := Aside0.mk ((bz hg : w.heap.size ≤ gb226))
          replace HB := Aside0.mk (bst hb)
          have GE226 := GW226
          have NB195_226 := Aside0.mk ((bl BK195.out hg : gb195 ≠ gb226))
          replace BK195 := Aside0.mk (bb BK195.out hb)
          have NB226_195 := Aside0.mk NB195_226.out.symm
          have NB203_226 := Aside0.mk ((bl BK203.out hg : gb203 ≠ gb226))
          replace BK203 := Aside0.mk (bb BK203.out hb)
          have NB226_203 := Aside0.mk NB203_226.out.symm
          have NB209_226 := Aside0.mk ((bl BK209.out hg : gb209 ≠ gb226))
          replace BK209 := Aside0.mk (bb BK209.out hb)
          have NB226_209 := Aside0.mk NB209_226.out.symm
          have NB210_226 := Aside0.mk ((bl BK210.out hg : gb210 ≠ gb226))
          replace BK210 := Aside0.mk (bb BK210.out hb)
          have NB226_210 := Aside0.mk NB210_226.out.symm
          clear hb hbox hg
          refine hK.out _ _ ⟨(blk_cell BK203.out 0).trans rfl, (blk_cell BK203.out 1).trans rfl, (blk_cell BK203.out 2).trans rfl, (blk_cell BK203.out 3).trans rfl, (blk_cell BK209.out 0).trans rfl, (blk_cell BK209.out 1).trans rfl, (blk_cell BK209.out 2).trans rfl, (blk_cell BK210.out 0).trans rfl, (blk_cell BK210.out 1).trans rfl, (blk_cell BK210.out 2).trans rfl, (blk_cell BK210.out 3).trans rfl, HS11_, HS12_, HS13_, HS14_⟩ (fun hHeld => ?_)
          clear hK K
          refine na (some 16) ?_
          exact norm_ (by simp only [putAll, Act.put, List.setIfInBounds_toArray, List.set_cons_zero, List.set_cons_succ]) (hCont (v220, gb226) _ ⟨hHeld, (by (with_reducible repeat (first | apply vA | apply vN | apply vD)); exact Kd.V_mono HL218_0.out (fun _ hk => ⟨hk.1.1, ⟨hk.1.2.1, ⟨hk.1.2.2.1, ⟨hk.1.2.2.2.1, ⟨hk.1.2.2.2.2, hk.2⟩⟩⟩⟩⟩)), (by (with_reducible repeat (first | apply vA | apply vN | apply vD)); exact Kd.V_mono HO213.out (fun _ hk => ⟨hk.1.1, ⟨hk.1.2.1, ⟨hk.1.2.2.1, ⟨hk.1.2.2.2.1, ⟨hk.1.2.2.2.2, hk.2⟩⟩⟩⟩⟩)), (by (with_reducible repeat (first | apply vA | apply vN | apply vD)); exact Kd.V_mono HO221.out (fun _ hk => ⟨hk.1.1, ⟨hk.1.2.1, ⟨hk.1.2.2.1, ⟨hk.1.2.2.2.1, ⟨hk.1.2.2.2.2, hk.2⟩⟩⟩⟩⟩)), (by (with_reducible repeat (first | apply vA | apply vN | apply vD)); exact Kd.V_mono HO_204000.out (fun _ hk => ⟨hk.1.1, ⟨hk.1.2.1, ⟨hk.1.2.2.1, ⟨hk.1.2.2.2.1, ⟨hk.1.2.2.2.2, hk.2⟩⟩⟩⟩⟩)), (mB BK195.out), (mB BK203.out), (mB BK209.out), (mB BK210.out), (mB BK226.out), GW226.out, GE226.out, NB195_226.out, NB226_195.out, NB203_226.out, NB226_203.out, NB209_226.out, NB226_209.out, NB210_226.out, NB226_210.out, (by repeat (first | (with_reducible first | exact HB.out | apply lA | apply lN | apply lD | refine lS ?_ GE195.out | refine lS ?_ GE203.out | refine lS ?_ GE209.out | refine lS ?_ GE210.out | refine lS ?_ GE226.out) | exact HB.out))⟩)
         ·
          skip
          refine box_step ?hg (N := 16) ?hd (cs := #[.slice none 0 0, .bool false, .bool false, .int .i64 0]) (t := 32) ?hr ?_; (case hd => rfl); (case hg => rfl); (case hr => first | (go_simp; done) | (go_simp; rfl))
          intro gb226 hg w60 hbox hb
          have HS11_ := (hb.cell (World.block_lt_of_cell? _ _ (hHeld.2.2.2.2.2.2.2.2.2.2.2.1))).trans (hHeld.2.2.2.2.2.2.2.2.2.2.2.1)
          have HS12_ := (hb.cell (World.block_lt_of_cell? _ _ (hHeld.2.2.2.2.2.2.2.2.2.2.2.2.1))).trans (hHeld.2.2.2.2.2.2.2.2.2.2.2.2.1)
          have HS13_ := (hb.cell (World.block_lt_of_cell? _ _ (hHeld.2.2.2.2.2.2.2.2.2.2.2.2.2.1))).trans (hHeld.2.2.2.2.2.2.2.2.2.2.2.2.2.1)
          have HS14_ := (hb.cell (World.block_lt_of_cell? _ _ (hHeld.2.2.2.2.2.2.2.2.2.2.2.2.2.2))).trans (hHeld.2.2.2.2.2.2.2.2.2.2.2.2.2.2)
          replace HO_204000 := Aside0.mk (Kd.V_below (Kd.V_elderB (mV HO_204000.out) gb226 (Nat.le_of_eq hg.symm)) hb)
          replace HO213 := Aside0.mk (Kd.V_below (Kd.V_elderB (mV HO213.out) gb226 (Nat.le_of_eq hg.symm)) hb)
          replace HL218_0 := Aside0.mk (Kd.V_below (Kd.V_elderB (mV HL218_0.out) gb226 (Nat.le_of_eq hg.symm)) hb)
          replace HR218_0 := Aside0.mk (Kd.C_below (by repeat (first | (with_reducible exact HR218_0.out) | (with_reducible refine Kd.C_alloc ?_ _) | (with_reducible refine Kd.C_drewN ?_ _) | (with_reducible refine Kd.C_drew ?_) | exact HR218_0.out)) hb)
          have BK226 := Aside0.mk (hbox)
          have GW226 := Aside0.mk ((bz hg : w.heap.size ≤ gb226))
          replace HB := Aside0.mk (bst hb)
          have GE226 := GW226
          have NB195_226 := Aside0.mk ((bl BK195.out hg : gb195 ≠ gb226))
          replace BK195 := Aside0.mk (bb BK195.out hb)
          have NB226_195 := Aside0.mk NB195_226.out.symm
          have NB203_226 := Aside0.mk ((bl BK203.out hg : gb203 ≠ gb226))
          replace BK203 := Aside0.mk (bb BK203.out hb)
          have NB226_203 := Aside0.mk NB203_226.out.symm
          have NB209_226 := Aside0.mk ((bl BK209.out hg : gb209 ≠ gb226))
          replace BK209 := Aside0.mk (bb BK209.out hb)
          have NB226_209 := Aside0.mk NB209_226.out.symm
          have NB210_226 := Aside0.mk ((bl BK210.out hg : gb210 ≠ gb226))
          replace BK210 := Aside0.mk (bb BK210.out hb)
          have NB226_210 := Aside0.mk NB210_226.out.symm
          clear hb hbox hg
          refine hK.out _ _ ⟨(blk_cell BK203.out 0).trans rfl, (blk_cell BK203.out 1).trans rfl, (blk_cell BK203.out 2).trans rfl, (blk_cell BK203.out 3).trans rfl, (blk_cell BK209.out 0).trans rfl, (blk_cell BK209.out 1).trans rfl, (blk_cell BK209.out 2).trans rfl, (blk_cell BK210.out 0).trans rfl, (blk_cell BK210.out 1).trans rfl, (blk_cell BK210.out 2).trans rfl, (blk_cell BK210.out 3).trans rfl, HS11_, HS12_, HS13_, HS14_⟩ (fun hHeld => ?_)
          clear hK K
          refine na (some 16) ?_
          refine one_ (i := 10) (N := some 87) q4k13 rfl rfl (one_of HT_.out (by kernel_rfl)) (by decide) (fun K hK => ?_)
          refine goes_ Try.func26 (by kernel_rfl) rfl #[.agg #[.slice (some ad218) t211.length co56, .bool t214, .bool t215, .int .i64 t216], .int .i64 (ji44), .int .i64 ((rd_T62 t211 (ji44)).f1), .agg #[.bool t206, .string t207, .string t208], .agg #[.int .i64 x211000_21, .string x211001_21, .string x211002_21, .int .i64 x211003_21]] (by rfl) rfl rfl (by (try simp only [List.map_toArray, List.map_cons, List.map_nil]); first | done | (simp only [hji44]; rfl) | rfl | (simp only [List.length_drop, List.length_take]; rfl)) ?_
          with_reducible refine (clinkerref05_Program.calls _ _ t211 t214 t215 t216 (ji44) ((rd_T62 t211 (ji44)).f1) t206 t207 t208 x211000_21 x211001_21 x211002_21 x211003_21 t219 t222 t223 t224 t225 _ ?side1 ?side2 A47.out).mono ?_
          (case side1 => repeat (first | exact (Kd.V_reads' HO213.out).2.2 | (with_reducible refine Kd.C_alloc ?_ _) | (with_reducible refine Kd.C_drewN ?_ _) | (with_reducible refine Kd.C_drew ?_)))
          (case side2 => exact (Kd.V_reads' HO213.out).2.1)
          rintro e w61 ⟨v220, rfl, ho0, hb⟩
          have HS11_ := (hb.cell (World.block_lt_of_cell? _ _ (hHeld.2.2.2.2.2.2.2.2.2.2.2.1))).trans (hHeld.2.2.2.2.2.2.2.2.2.2.2.1)
          have HS12_ := (hb.cell (World.block_lt_of_cell? _ _ (hHeld.2.2.2.2.2.2.2.2.2.2.2.2.1))).trans (hHeld.2.2.2.2.2.2.2.2.2.2.2.2.1)
          have HS13_ := (hb.cell (World.block_lt_of_cell? _ _ (hHeld.2.2.2.2.2.2.2.2.2.2.2.2.2.1))).trans (hHeld.2.2.2.2.2.2.2.2.2.2.2.2.2.1)
          have HS14_ := (hb.cell (World.block_lt_of_cell? _ _ (hHeld.2.2.2.2.2.2.2.2.2.2.2.2.2.2))).trans (hHeld.2.2.2.2.2.2.2.2.2.2.2.2.2.2)
          refine ⟨_, rfl, ?_⟩
          replace HO_204000 := Aside0.mk (Kd.V_below (mV HO_204000.out) hb)
          replace HO213 := Aside0.mk (Kd.V_below (mV HO213.out) hb)
          replace HL218_0 := Aside0.mk (Kd.V_below (mV HL218_0.out) hb)
          have HO221 := Aside0.mk (Kd.V_lower (Kd.V_mono (ok' := fun k_ => (w.heap.size ≤ k_) ∧ k_ ≠ gb195 ∧ k_ ≠ gb203 ∧ k_ ≠ gb209 ∧ k_ ≠ gb210 ∧ k_ ≠ gb226) ho0 (fun k_ hk_ => ⟨(Nat.le_trans bsz hk_), (Kd.freshB (g := gb195) (o := .cells #[.slice none 0 0, .bool false, .bool false, .int .i64 0] 32 (0, 0)) (mB BK195.out) k_ hk_), (Kd.freshB (g := gb203) (o := .cells #[.slice (some ad218) t211.length co56, .bool t214, .bool t215, .int .i64 t216] 32 (0, 0)) (mB BK203.out) k_ hk_), (Kd.freshB (g := gb209) (o := .cells #[.bool t206, .string t207, .string t208] 54 (0, 0)) (mB BK209.out) k_ hk_), (Kd.freshB (g := gb210) (o := .cells #[.int .i64 x211000_21, .string x211001_21, .string x211002_21, .int .i64 x211003_21] 57 (0, 0)) (mB BK210.out) k_ hk_), (Kd.freshB (g := gb226) (o := .cells #[.slice none 0 0, .bool false, .bool false, .int .i64 0] 32 (0, 0)) (mB BK226.out) k_ hk_)⟩)) bsz)
          replace BK195 := Aside0.mk (bb BK195.out hb)
          replace BK203 := Aside0.mk (bb BK203.out hb)
          replace BK209 := Aside0.mk (bb BK209.out hb)
          replace BK210 := Aside0.mk (bb BK210.out hb)
          replace HR218_0 := Aside0.mk (Kd.C_below (by repeat (first | (with_reducible exact HR218_0.out) | (with_reducible refine Kd.C_alloc ?_ _) | (with_reducible refine Kd.C_drewN ?_ _) | (with_reducible refine Kd.C_drew ?_) | exact HR218_0.out)) hb)
          replace BK226 := Aside0.mk (bb BK226.out hb)
          replace HB := Aside0.mk (bst hb)
          (try clear hb)
          (try clear hb2)
          (try clear hk)
          (try clear hi)
          (try clear ho0)
          refine hK.out _ _ ⟨(blk_cell BK203.out 0).trans rfl, (blk_cell BK203.out 1).trans rfl, (blk_cell BK203.out 2).trans rfl, (blk_cell BK203.out 3).trans rfl, (blk_cell BK209.out 0).trans rfl, (blk_cell BK209.out 1).trans rfl, (blk_cell BK209.out 2).trans rfl, (blk_cell BK210.out 0).trans rfl, (blk_cell BK210.out 1).trans rfl, (blk_cell BK210.out 2).trans rfl, (blk_cell BK210.out 3).trans rfl, HS11_, HS12_, HS13_, HS14_⟩ (fun hHeld => ?_)
          clear hK K
          refine na (some 87) ?_
          refine pa 11 (some 76) ?_
          refine pa 12 (some 88) ?_
          refine pa 13 (some 89) ?_
          exact norm_ (by simp only [putAll, Act.put, List.setIfInBounds_toArray, List.set_cons_zero, List.set_cons_succ]) (hCont (v220, gb226) _ ⟨hHeld, (by (with_reducible repeat (first | apply vA | apply vN | apply vD)); exact Kd.V_mono HL218_0.out (fun _ hk => ⟨hk.1.1, ⟨hk.1.2.1, ⟨hk.1.2.2.1, ⟨hk.1.2.2.2.1, ⟨hk.1.2.2.2.2, hk.2⟩⟩⟩⟩⟩)), (by (with_reducible repeat (first | apply vA | apply vN | apply vD)); exact Kd.V_mono HO213.out (fun _ hk => ⟨hk.1.1, ⟨hk.1.2.1, ⟨hk.1.2.2.1, ⟨hk.1.2.2.2.1, ⟨hk.1.2.2.2.2, hk.2⟩⟩⟩⟩⟩)), (mV HO221.out), (by (with_reducible repeat (first | apply vA | apply vN | apply vD)); exact Kd.V_mono HO_204000.out (fun _ hk => ⟨hk.1.1, ⟨hk.1.2.1, ⟨hk.1.2.2.1, ⟨hk.1.2.2.2.1, ⟨hk.1.2.2.2.2, hk.2⟩⟩⟩⟩⟩)), (mB BK195.out), (mB BK203.out), (mB BK209.out), (mB BK210.out), (mB BK226.out), GW226.out, GE226.out, NB195_226.out, NB226_195.out, NB203_226.out, NB226_203.out, NB209_226.out, NB226_209.out, NB210_226.out, NB226_210.out, (by repeat (first | (with_reducible first | exact HB.out | apply lA | apply lN | apply lD | refine lS ?_ GE195.out | refine lS ?_ GE203.out | refine lS ?_ GE209.out | refine lS ?_ GE210.out | refine lS ?_ GE226.out) | exact HB.out))⟩)
        rintro ⟨v220, gb226⟩ w62 ⟨hS_, h0_, h1_, h2_, h3_, h4_, h5_, h6_, h7_, h8_, h9_, h10_, h11_, h12_, h13_, h14_, h15_, h16_, h17_, h18_, h19_⟩
        have n0_ : Aside0 (Kd.V k54 54 w62 w.heap.size (fun k_ => (w.heap.size ≤ k_) ∧ k_ ≠ gb195 ∧ k_ ≠ gb203 ∧ k_ ≠ gb209 ∧ k_ ≠ gb210 ∧ k_ ≠ gb226) (.slice A218_0 ((rd_T62 t211 (ji44)).f0).length c218_0) ((rd_T62 t211 (ji44)).f0)) := ⟨h0_⟩
        have n1_ : Aside0 (Kd.V k62 62 w62 w.heap.size (fun k_ => (w.heap.size ≤ k_) ∧ k_ ≠ gb195 ∧ k_ ≠ gb203 ∧ k_ ≠ gb209 ∧ k_ ≠ gb210 ∧ k_ ≠ gb226) (.slice (some ad218) t211.length co56) t211) := ⟨h1_⟩
        have n2_ : Aside0 (Kd.V k62 62 w62 w.heap.size (fun k_ => (w.heap.size ≤ k_) ∧ k_ ≠ gb195 ∧ k_ ≠ gb203 ∧ k_ ≠ gb209 ∧ k_ ≠ gb210 ∧ k_ ≠ gb226) v220 t219) := ⟨h2_⟩
        have n3_ : Aside0 (Kd.V k62 62 w62 w.heap.size (fun k_ => (w.heap.size ≤ k_) ∧ k_ ≠ gb195 ∧ k_ ≠ gb203 ∧ k_ ≠ gb209 ∧ k_ ≠ gb210 ∧ k_ ≠ gb226) (.slice Ao54 x204000_1.length co54) x204000_1) := ⟨h3_⟩
        have n4_ : Aside0 (w62.heap[gb195]? = some (.cells #[.slice none 0 0, .bool false, .bool false, .int .i64 0] 32 (0, 0))) := ⟨h4_⟩
        have n5_ : Aside0 (w62.heap[gb203]? = some (.cells #[.slice (some ad218) t211.length co56, .bool t214, .bool t215, .int .i64 t216] 32 (0, 0))) := ⟨h5_⟩
        have n6_ : Aside0 (w62.heap[gb209]? = some (.cells #[.bool t206, .string t207, .string t208] 54 (0, 0))) := ⟨h6_⟩
        have n7_ : Aside0 (w62.heap[gb210]? = some (.cells #[.int .i64 x211000_21, .string x211001_21, .string x211002_21, .int .i64 x211003_21] 57 (0, 0))) := ⟨h7_⟩
        have n8_ : Aside0 (w62.heap[gb226]? = some (.cells #[.slice none 0 0, .bool false, .bool false, .int .i64 0] 32 (0, 0))) := ⟨h8_⟩
        have n9_ : Aside0 (w.heap.size ≤ gb226) := ⟨h9_⟩
        have n10_ : Aside0 (w.heap.size ≤ gb226) := ⟨h10_⟩
        have n11_ : Aside0 (gb195 ≠ gb226) := ⟨h11_⟩
        have n12_ : Aside0 (gb226 ≠ gb195) := ⟨h12_⟩
        have n13_ : Aside0 (gb203 ≠ gb226) := ⟨h13_⟩
        have n14_ : Aside0 (gb226 ≠ gb203) := ⟨h14_⟩
        have n15_ : Aside0 (gb209 ≠ gb226) := ⟨h15_⟩
        have n16_ : Aside0 (gb226 ≠ gb209) := ⟨h16_⟩
        have n17_ : Aside0 (gb210 ≠ gb226) := ⟨h17_⟩
        have n18_ : Aside0 (gb226 ≠ gb210) := ⟨h18_⟩
        have n19_ : Aside0 (Below w.heap.size w w62) := ⟨h19_⟩
        clear HO_204000
        clear HO213
        clear BK195
        clear BK203
        clear BK209
        clear BK210
        clear HB
        clear h0_ h1_ h2_ h3_ h4_ h5_ h6_ h7_ h8_ h9_ h10_ h11_ h12_ h13_ h14_ h15_ h16_ h17_ h18_ h19_
        have HL218_0 := n0_
        have HO213 := n1_
        have HO221 := n2_
        have HO_204000 := n3_
        have BK195 := n4_
        have BK203 := n5_
        have BK209 := n6_
        have BK210 := n7_
        have BK226 := n8_
        have GW226 := n9_
        have GE226 := n10_
        have NB195_226 := n11_
        have NB226_195 := n12_
        have NB203_226 := n13_
        have NB226_203 := n14_
        have NB209_226 := n15_
        have NB226_209 := n16_
        have NB210_226 := n17_
        have NB226_210 := n18_
        have HB := n19_
        clear n0_ n1_ n2_ n3_ n4_ n5_ n6_ n7_ n8_ n9_ n10_ n11_ n12_ n13_ n14_ n15_ n16_ n17_ n18_ n19_
        have hHeld : w62.cell? ⟨gb203, 0, none⟩ = some (.slice (some ad218) t211.length co56) ∧ w62.cell? ⟨gb203, 1, none⟩ = some (.bool t214) ∧ w62.cell? ⟨gb203, 2, none⟩ = some (.bool t215) ∧ w62.cell? ⟨gb203, 3, none⟩ = some (.int .i64 t216) ∧ w62.cell? ⟨gb209, 0, none⟩ = some (.bool t206) ∧ w62.cell? ⟨gb209, 1, none⟩ = some (.string t207) ∧ w62.cell? ⟨gb209, 2, none⟩ = some (.string t208) ∧ w62.cell? ⟨gb210, 0, none⟩ = some (.int .i64 x211000_21) ∧ w62.cell? ⟨gb210, 1, none⟩ = some (.string x211001_21) ∧ w62.cell? ⟨gb210, 2, none⟩ = some (.string x211002_21) ∧ w62.cell? ⟨gb210, 3, none⟩ = some (.int .i64 x211003_21) ∧ w62.cell? (ad218.add (((ji44)).toNat * 4)) = some (.slice A218_0 ((rd_T62 t211 (ji44)).f0).length c218_0) ∧ w62.cell? ⟨(ad218.add (((ji44)).toNat * 4)).block, (ad218.add (((ji44)).toNat * 4)).off + 1, none⟩ = some (.int .i64 ((rd_T62 t211 (ji44)).f1)) ∧ w62.cell? ⟨(ad218.add (((ji44)).toNat * 4)).block, (ad218.add (((ji44)).toNat * 4)).off + 2, none⟩ = some (.int .i64 ((rd_T62 t211 (ji44)).f2)) ∧ w62.cell? ⟨(ad218.add (((ji44)).toNat * 4)).block, (ad218.add (((ji44)).toNat * 4)).off + 3, none⟩ = some (.bool ((rd_T62 t211 (ji44)).f3)) := hS_
        obtain ⟨Ao63, co63, eo63⟩ := Kd.V_slice HO221.out
        (first | subst eo63 | (injection eo63 with f1_ f2_ f3_; have f4_ := f1_.symm; have f5_ := f3_.symm; clear f1_ f2_ f3_; subst f4_; subst f5_))
        refine norm_ (a' := ?_) ?_ ?_; rotate_left; (focus simp only [putAll, Act.put, List.setIfInBounds_toArray, List.set_cons_zero, List.set_cons_succ]; rfl)
        refine one_ (i := 15) (N := none) q5k13 rfl rfl (one_of HT_.out (by kernel_rfl)) (by decide) (fun K hK => ?_)
        have hs64 : w62.cell? ⟨gb226, 0, none⟩ = some (.slice none 0 0) := (blk_cell BK226.out 0).trans rfl
        have hfs64 := blk_frozen BK226.out 0
        have hns64_0 := NB195_226.out
        have hns64_1 := NB203_226.out
        have hns64_2 := NB209_226.out
        have hns64_3 := NB210_226.out
        have hms64_0 := NB226_195.out
        have hms64_1 := NB226_203.out
        have hms64_2 := NB226_209.out
        have hms64_3 := NB226_210.out
        have hs65 : w62.cell? ⟨gb226, 1, none⟩ = some (.bool false) := (blk_cell BK226.out 1).trans rfl
        have hfs65 := blk_frozen BK226.out 1
        have hns65_0 := NB195_226.out
        have hns65_1 := NB203_226.out
        have hns65_2 := NB209_226.out
        have hns65_3 := NB210_226.out
        have hms65_0 := NB226_195.out
        have hms65_1 := NB226_203.out
        have hms65_2 := NB226_209.out
        have hms65_3 := NB226_210.out
        have hs66 : w62.cell? ⟨gb226, 2, none⟩ = some (.bool false) := (blk_cell BK226.out 2).trans rfl
        have hfs66 := blk_frozen BK226.out 2
        have hns66_0 := NB195_226.out
        have hns66_1 := NB203_226.out
        have hns66_2 := NB209_226.out
        have hns66_3 := NB210_226.out
        have hms66_0 := NB226_195.out
        have hms66_1 := NB226_203.out
        have hms66_2 := NB226_209.out
        have hms66_3 := NB226_210.out
        have hs67 : w62.cell? ⟨gb226, 3, none⟩ = some (.int .i64 0) := (blk_cell BK226.out 3).trans rfl
        have hfs67 := blk_frozen BK226.out 3
        have hns67_0 := NB195_226.out
        have hns67_1 := NB203_226.out
        have hns67_2 := NB209_226.out
        have hns67_3 := NB210_226.out
        have hms67_0 := NB226_195.out
        have hms67_1 := NB226_203.out
        have hms67_2 := NB226_209.out
        have hms67_3 := NB226_210.out
        refine skip_ (w1 := ?_) (by rfl) rfl ?_ ?_; rotate_left; (focus go_simp; rfl)
        have hF0_ : (ad218.add ((ji44).toNat * 4)).block ≠ gb226 := by rw [add_block]; exact vaw HO213.out ji44 (by first | exact of_eq_true p218 | assumption | omega) (by first | exact of_eq_true q218 | assumption | omega) (fun _ hk => hk.2.2.2.2.2)
        refine hK.out _ _ ⟨((cell_far (p := ⟨gb226, _, none⟩) NB203_226.out _).trans (((cell_far (p := ⟨gb226, _, none⟩) NB203_226.out _).trans (((cell_far (p := ⟨gb226, _, none⟩) NB203_226.out _).trans (((cell_far (p := ⟨gb226, _, none⟩) NB203_226.out _).trans (hHeld.1)))))))), ((cell_far (p := ⟨gb226, _, none⟩) NB203_226.out _).trans (((cell_far (p := ⟨gb226, _, none⟩) NB203_226.out _).trans (((cell_far (p := ⟨gb226, _, none⟩) NB203_226.out _).trans (((cell_far (p := ⟨gb226, _, none⟩) NB203_226.out _).trans (hHeld.2.1)))))))), ((cell_far (p := ⟨gb226, _, none⟩) NB203_226.out _).trans (((cell_far (p := ⟨gb226, _, none⟩) NB203_226.out _).trans (((cell_far (p := ⟨gb226, _, none⟩) NB203_226.out _).trans (((cell_far (p := ⟨gb226, _, none⟩) NB203_226.out _).trans (hHeld.2.2.1)))))))), ((cell_far (p := ⟨gb226, _, none⟩) NB203_226.out _).trans (((cell_far (p := ⟨gb226, _, none⟩) NB203_226.out _).trans (((cell_far (p := ⟨gb226, _, none⟩) NB203_226.out _).trans (((cell_far (p := ⟨gb226, _, none⟩) NB203_226.out _).trans (hHeld.2.2.2.1)))))))), ((cell_far (p := ⟨gb226, _, none⟩) NB209_226.out _).trans (((cell_far (p := ⟨gb226, _, none⟩) NB209_226.out _).trans (((cell_far (p := ⟨gb226, _, none⟩) NB209_226.out _).trans (((cell_far (p := ⟨gb226, _, none⟩) NB209_226.out _).trans (hHeld.2.2.2.2.1)))))))), ((cell_far (p := ⟨gb226, _, none⟩) NB209_226.out _).trans (((cell_far (p := ⟨gb226, _, none⟩) NB209_226.out _).trans (((cell_far (p := ⟨gb226, _, none⟩) NB209_226.out _).trans (((cell_far (p := ⟨gb226, _, none⟩) NB209_226.out _).trans (hHeld.2.2.2.2.2.1)))))))), ((cell_far (p := ⟨gb226, _, none⟩) NB209_226.out _).trans (((cell_far (p := ⟨gb226, _, none⟩) NB209_226.out _).trans (((cell_far (p := ⟨gb226, _, none⟩) NB209_226.out _).trans (((cell_far (p := ⟨gb226, _, none⟩) NB209_226.out _).trans (hHeld.2.2.2.2.2.2.1)))))))), ((cell_far (p := ⟨gb226, _, none⟩) NB210_226.out _).trans (((cell_far (p := ⟨gb226, _, none⟩) NB210_226.out _).trans (((cell_far (p := ⟨gb226, _, none⟩) NB210_226.out _).trans (((cell_far (p := ⟨gb226, _, none⟩) NB210_226.out _).trans (hHeld.2.2.2.2.2.2.2.1)))))))), ((cell_far (p := ⟨gb226, _, none⟩) NB210_226.out _).trans (((cell_far (p := ⟨gb226, _, none⟩) NB210_226.out _).trans (((cell_far (p := ⟨gb226, _, none⟩) NB210_226.out _).trans (((cell_far (p := ⟨gb226, _, none⟩) NB210_226.out _).trans (hHeld.2.2.2.2.2.2.2.2.1)))))))), ((cell_far (p := ⟨gb226, _, none⟩) NB210_226.out _).trans (((cell_far (p := ⟨gb226, _, none⟩) NB210_226.out _).trans (((cell_far (p := ⟨gb226, _, none⟩) NB210_226.out _).trans (((cell_far (p := ⟨gb226, _, none⟩) NB210_226.out _).trans (hHeld.2.2.2.2.2.2.2.2.2.1)))))))), ((cell_far (p := ⟨gb226, _, none⟩) NB210_226.out _).trans (((cell_far (p := ⟨gb226, _, none⟩) NB210_226.out _).trans (((cell_far (p := ⟨gb226, _, none⟩) NB210_226.out _).trans (((cell_far (p := ⟨gb226, _, none⟩) NB210_226.out _).trans (hHeld.2.2.2.2.2.2.2.2.2.2.1)))))))), ((cell_far (p := ⟨gb226, _, none⟩) (by exact hF0_) _).trans (((cell_far (p := ⟨gb226, _, none⟩) (by exact hF0_) _).trans (((cell_far (p := ⟨gb226, _, none⟩) (by exact hF0_) _).trans (((cell_far (p := ⟨gb226, _, none⟩) (by exact hF0_) _).trans (hHeld.2.2.2.2.2.2.2.2.2.2.2.1)))))))), ((cell_far (p := ⟨gb226, _, none⟩) (by exact hF0_) _).trans (((cell_far (p := ⟨gb226, _, none⟩) (by exact hF0_) _).trans (((cell_far (p := ⟨gb226, _, none⟩) (by exact hF0_) _).trans (((cell_far (p := ⟨gb226, _, none⟩) (by exact hF0_) _).trans (hHeld.2.2.2.2.2.2.2.2.2.2.2.2.1)))))))), ((cell_far (p := ⟨gb226, _, none⟩) (by exact hF0_) _).trans (((cell_far (p := ⟨gb226, _, none⟩) (by exact hF0_) _).trans (((cell_far (p := ⟨gb226, _, none⟩) (by exact hF0_) _).trans (((cell_far (p := ⟨gb226, _, none⟩) (by exact hF0_) _).trans (hHeld.2.2.2.2.2.2.2.2.2.2.2.2.2.1)))))))), ((cell_far (p := ⟨gb226, _, none⟩) (by exact hF0_) _).trans (((cell_far (p := ⟨gb226, _, none⟩) (by exact hF0_) _).trans (((cell_far (p := ⟨gb226, _, none⟩) (by exact hF0_) _).trans (((cell_far (p := ⟨gb226, _, none⟩) (by exact hF0_) _).trans (hHeld.2.2.2.2.2.2.2.2.2.2.2.2.2.2))))))))⟩ (fun hHeld => ?_)
        clear hK K
        refine pa 16 (some 17) ?_
        refine done_ (done_of HT_.out (by kernel_rfl)) ?_
       ·
        have hnb87 := NB226_195.out
        have hnc87 := NB195_226.out
        have hnb88 := NB226_203.out
        have hnc88 := NB203_226.out
        have hnb89 := NB226_209.out
        have hnc89 := NB209_226.out
        have hnb90 := NB226_210.out
        have hnc90 := NB210_226.out
        obtain ⟨hcz91_0, hcz91_1, hcz91_2, hcz91_3, hfz91_0, hfz91_1, hfz91_2, hfz91_3⟩ := kc4 BK226.out
        obtain ⟨hcz92_0, hcz92_1, hcz92_2, hcz92_3, hfz92_0, hfz92_1, hfz92_2, hfz92_3⟩ := kc4 BK203.out
        try go_wp2
        go_roundg kj21
        case measure => have := HK1.out; have := HJ10.out; have := HJ21.out; omega
        case rel => exact ⟨(ji68), (wrap64 (x10_1 + 1)), (t219), (t222), (t223), (t224), (.slice Ao63 t219.length co63), (by first | rfl | (simp; done) | (simp only [← hji68] <;> (first | rfl | simp)) | (simp [*]; done)), (by first | rfl | (simp; done) | (simp [*]; done)), H', ⟨by have := HK1.out; have := HJ10.out; have := HJ21.out; omega⟩, ⟨by (with_reducible repeat (first | apply vA | apply vN | apply vD)); exact Kd.V_mono (Kd.V_far (p := ⟨gb203, 3, none⟩) (Kd.V_far (p := ⟨gb203, 2, none⟩) (Kd.V_far (p := ⟨gb203, 1, none⟩) (Kd.V_far (p := ⟨gb203, 0, none⟩) (Kd.V_far (p := ⟨gb226, 3, none⟩) (Kd.V_far (p := ⟨gb226, 2, none⟩) (Kd.V_far (p := ⟨gb226, 1, none⟩) (Kd.V_far (p := ⟨gb226, 0, none⟩) (Kd.V_mono (Kd.V_mono HO221.out (fun k_ hk => (⟨hk, hk.2.2.2.2.2⟩ : _ ∧ k_ ≠ gb226))) (fun k_ hk => (⟨hk, hk.1.2.2.1⟩ : _ ∧ k_ ≠ gb203))) (fun _ hk => hk.1.2) (.slice Ao63 t219.length co63)) (fun _ hk => hk.1.2) (.bool t222)) (fun _ hk => hk.1.2) (.bool t223)) (fun _ hk => hk.1.2) (.int .i64 t224)) (fun _ hk => hk.2) _) (fun _ hk => hk.2) (.bool t222)) (fun _ hk => hk.2) (.bool t223)) (fun _ hk => hk.2) _) (fun _ hk => ⟨hk.1.1.1, ⟨hk.1.1.2.1, hk.1.1.2.2.1⟩⟩)⟩, ⟨by (with_reducible repeat (first | apply bN | apply bD | apply bA)); refine blk_far ?_ NB195_203.out _; (with_reducible repeat (first | apply bN | apply bD | apply bA)); refine blk_far ?_ NB195_203.out _; (with_reducible repeat (first | apply bN | apply bD | apply bA)); refine blk_far ?_ NB195_203.out _; (with_reducible repeat (first | apply bN | apply bD | apply bA)); refine blk_far ?_ NB195_203.out _; (with_reducible repeat (first | apply bN | apply bD | apply bA)); refine blk_far ?_ NB195_226.out _; (with_reducible repeat (first | apply bN | apply bD | apply bA)); refine blk_far ?_ NB195_226.out _; (with_reducible repeat (first | apply bN | apply bD | apply bA)); refine blk_far ?_ NB195_226.out _; (with_reducible repeat (first | apply bN | apply bD | apply bA)); refine blk_far ?_ NB195_226.out _; (with_reducible repeat (first | apply bN | apply bD | apply bA)); exact BK195.out⟩, ⟨by (with_reducible repeat (first | apply bN | apply bD | apply bA)); refine blk_put (cs := #[.slice Ao63 t219.length co63, .bool t222, .bool t223, .int .i64 t216]) ?_ 3 _ rfl; (with_reducible repeat (first | apply bN | apply bD | apply bA)); refine blk_put (cs := #[.slice Ao63 t219.length co63, .bool t222, .bool t215, .int .i64 t216]) ?_ 2 _ rfl; (with_reducible repeat (first | apply bN | apply bD | apply bA)); refine blk_put (cs := #[.slice Ao63 t219.length co63, .bool t214, .bool t215, .int .i64 t216]) ?_ 1 _ rfl; (with_reducible repeat (first | apply bN | apply bD | apply bA)); refine blk_put (cs := #[.slice (some ad218) t211.length co56, .bool t214, .bool t215, .int .i64 t216]) ?_ 0 _ rfl; (with_reducible repeat (first | apply bN | apply bD | apply bA)); refine blk_far ?_ NB203_226.out _; (with_reducible repeat (first | apply bN | apply bD | apply bA)); refine blk_far ?_ NB203_226.out _; (with_reducible repeat (first | apply bN | apply bD | apply bA)); refine blk_far ?_ NB203_226.out _; (with_reducible repeat (first | apply bN | apply bD | apply bA)); refine blk_far ?_ NB203_226.out _; (with_reducible repeat (first | apply bN | apply bD | apply bA)); exact BK203.out⟩, ⟨mH⟩⟩
       ·
        try go_wp2
        go_roundg kj21
        case measure => have := HK1.out; have := HJ10.out; have := HJ21.out; omega
        case rel => exact ⟨(ji49), (wrap64 (x10_1 + 1)), (t211), (t214), (t215), (t216), (.slice (some ad218) t211.length co56), (by first | rfl | (simp; done) | (simp only [← hji49] <;> (first | rfl | simp)) | (simp [*]; done)), (by first | rfl | (simp; done) | (simp [*]; done)), H', ⟨by have := HK1.out; have := HJ10.out; have := HJ21.out; omega⟩, ⟨by (with_reducible repeat (first | apply vA | apply vN | apply vD)); exact Kd.V_mono (Kd.V_far (p := ⟨gb226, 3, none⟩) (Kd.V_far (p := ⟨gb226, 2, none⟩) (Kd.V_far (p := ⟨gb226, 1, none⟩) (Kd.V_far (p := ⟨gb226, 0, none⟩) (Kd.V_mono HO213.out (fun k_ hk => (⟨hk, hk.2.2.2.2.2⟩ : _ ∧ k_ ≠ gb226))) (fun _ hk => hk.2) _) (fun _ hk => hk.2) (.bool t222)) (fun _ hk => hk.2) (.bool t223)) (fun _ hk => hk.2) _) (fun _ hk => ⟨hk.1.1, ⟨hk.1.2.1, hk.1.2.2.1⟩⟩)⟩, ⟨by (with_reducible repeat (first | apply bN | apply bD | apply bA)); refine blk_far ?_ NB195_226.out _; (with_reducible repeat (first | apply bN | apply bD | apply bA)); refine blk_far ?_ NB195_226.out _; (with_reducible repeat (first | apply bN | apply bD | apply bA)); refine blk_far ?_ NB195_226.out _; (with_reducible repeat (first | apply bN | apply bD | apply bA)); refine blk_far ?_ NB195_226.out _; (with_reducible repeat (first | apply bN | apply bD | apply bA)); exact BK195.out⟩, ⟨by (with_reducible repeat (first | apply bN | apply bD | apply bA)); refine blk_far ?_ NB203_226.out _; (with_reducible repeat (first | apply bN | apply bD | apply bA)); refine blk_far ?_ NB203_226.out _; (with_reducible repeat (first | apply bN | apply bD | apply bA)); refine blk_far ?_ NB203_226.out _; (with_reducible repeat (first | apply bN | apply bD | apply bA)); refine blk_far ?_ NB203_226.out _; (with_reducible repeat (first | apply bN | apply bD | apply bA)); exact BK203.out⟩, ⟨mH⟩⟩

end Go.Proofs.Ytfolonajajideaa.PAll
