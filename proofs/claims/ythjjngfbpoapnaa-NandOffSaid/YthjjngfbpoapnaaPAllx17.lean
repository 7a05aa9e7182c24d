/- Written by a program of this session (wip/xp) out of the translation: functions in plain Lean, and proofs that the calls come to these. -/
import Derived.Test.YthjjngfbpoapnaaPAllx0
import Derived.Test.YthjjngfbpoapnaaPAllx1
import Derived.Test.YthjjngfbpoapnaaPAllx3
import Derived.Test.YthjjngfbpoapnaaPAllx4
import Derived.Test.YthjjngfbpoapnaaPAllx6
import Derived.Test.YthjjngfbpoapnaaPAllx7
import Derived.Test.YthjjngfbpoapnaaPAllx8
import Derived.Test.YthjjngfbpoapnaaPAllx9
import Derived.Test.YthjjngfbpoapnaaPAllx12
import Derived.Test.YthjjngfbpoapnaaPAllx15
import Derived.Test.YthjjngfbpoapnaaPAllx16
namespace Go.Proofs.Ythjjngfbpoapnaa.PAll
open Go.RowKit Go.Proofs.YthjjngfbpoapnaaW.PrintWords Go.Proofs.YthjjngfbpoapnaaW.PrintLast Go.Proofs.YthjjngfbpoapnaaW.PrintMore
attribute [local go_sem] max2_int min2_int max_two min_two max_three min_three max_four min_four   -- for this text's walks alone
set_option linter.unusedVariables false
set_option linter.unusedSimpArgs false

theorem rA {α : Type} {d : Kd α} {e : Nat} {w : World} {base : Nat} {ok : Nat → Prop} {v : Value} {xs : List α} (h : d.R e w base ok v xs) (o : Obj) : d.R e (w.alloc o) base ok v xs := Kd.R_alloc h o
theorem rN {α : Type} {d : Kd α} {e : Nat} {w : World} {base : Nat} {ok : Nat → Prop} {v : Value} {xs : List α} (h : d.R e w base ok v xs) (m : Nat) : d.R e (w.drewN m) base ok v xs := Kd.R_drewN h m
theorem rD {α : Type} {d : Kd α} {e : Nat} {w : World} {base : Nat} {ok : Nat → Prop} {v : Value} {xs : List α} (h : d.R e w base ok v xs) : d.R e w.drew base ok v xs := Kd.R_drew h
/-! ### clinkerlaw05_NandOff: function 9 -/
mutual
def clinkerlaw05_NandOff.j1 : Nat → Int → Int → Bool → List (S44) → Bool → Bool → Int → Option (Bool)
 | 0, _, _, _, _, _, _, _ => none
 | k + 1, x2, x3, x9, x412000, x412001, x412002, x412003 => (clinkerref05_On.f x412000 x412001 x412002 x412003).bind fun bt421 => ((clinkerref05_Own.f bt421.1 bt421.2.1 bt421.2.2.1 bt421.2.2.2).bind fun bt427 => ((nand_Program.f bt427.1 bt427.2.1 true bt427.2.2.2 (Int.tmod (wrap64 (x2)) 4) (Int.tmod (wrap64 (x3)) 6) false (⟨#[120]⟩ : ByteArray) (⟨#[]⟩ : ByteArray) 0 (⟨#[]⟩ : ByteArray) (⟨#[]⟩ : ByteArray) 0).bind fun bt434 => ((nand_Erase.f bt427.1 bt427.2.1 true bt427.2.2.2 (Int.tmod (wrap64 (x2)) 4) 0 (⟨#[]⟩ : ByteArray) (⟨#[]⟩ : ByteArray) 0).bind fun bt442 => ((nand_Read.f bt427.1 bt427.2.1 true bt427.2.2.2 (Int.tmod (wrap64 (x2)) 4) (Int.tmod (wrap64 (x3)) 6)).bind fun bt450 => (if x9 = true then (if bt434.2.2.2.2 = 52 then (if bt442.2.2.2.2 = 52 then (if bt450.2.2.2 = 52 then (if bt450.1 = true then (some false) else ((clinkerref05_Same.f bt434.1 bt434.2.1 bt434.2.2.1 bt434.2.2.2.1 bt427.1 bt427.2.1 true bt427.2.2.2).bind fun t455 => (if t455 = true then ((clinkerref05_Same.f bt442.1 bt442.2.1 bt442.2.2.1 bt442.2.2.2.1 bt427.1 bt427.2.1 true bt427.2.2.2).bind fun t456 => (if t456 = true then ((nand_On.f bt427.1 bt427.2.1 true bt427.2.2.2).bind fun bt457 => ((clinkerref05_Same.f bt457.1 bt457.2.1 bt457.2.2.1 bt457.2.2.2 bt421.1 bt421.2.1 bt421.2.2.1 bt421.2.2.2).bind fun t463 => (some t463))) else (some false))) else (some false)))) else (some false)) else (some false)) else (some false)) else (some false))))))
def clinkerlaw05_NandOff.l0 : Nat → List (S37) → Int → Int → Bool → Int → List (S44) → Bool → Bool → Int → Option (Bool)
 | 0, _, _, _, _, _, _, _, _, _ => none
 | k + 1, x0, x2, x3, x9, x12, x412000, x412001, x412002, x412003 => if x12 < (x0.length : Int) then (if x12 < 12 then (if 0 ≤ x12 then ((clinkerlaw05_done.f k x412000 x412001 x412002 x412003 ((rd_T37 x0 x12).f0) ((rd_T37 x0 x12).f1) ((rd_T37 x0 x12).f2) ((rd_T37 x0 x12).f3) ((rd_T37 x0 x12).f4) ((rd_T37 x0 x12).f5)).bind fun bt413 => (clinkerlaw05_NandOff.l0 k x0 x2 x3 x9 (wrap64 (x12 + 1)) bt413.1 bt413.2.1 bt413.2.2.1 bt413.2.2.2.1)) else (none)) else (clinkerlaw05_NandOff.j1 k x2 x3 x9 x412000 x412001 x412002 x412003)) else (clinkerlaw05_NandOff.j1 k x2 x3 x9 x412000 x412001 x412002 x412003)
end
def clinkerlaw05_NandOff.f (k : Nat) (l0 : List (S37)) (a1 : Int) (a2 : Int) (a3 : Int) : Option (Bool) := (clinkerlaw05_awake.f).bind fun t403 => (if t403 = true then ((clinkerref05_New.f 3 (wrap64 (1 + (Int.tmod (wrap64 (a1)) 5))) ([] : List Int)).bind fun bt404 => (clinkerlaw05_NandOff.l0 k l0 a2 a3 t403 0 bt404.1 bt404.2.1 bt404.2.2.1 bt404.2.2.2.1)) else (some false))
theorem clinkerlaw05_NandOff.mono_l : ∀ k, (∀ y0 y1 y2 y3 y4 y5 y6, LeO (clinkerlaw05_NandOff.j1 k y0 y1 y2 y3 y4 y5 y6) (clinkerlaw05_NandOff.j1 (k + 1) y0 y1 y2 y3 y4 y5 y6)) ∧ (∀ y0 y1 y2 y3 y4 y5 y6 y7 y8, LeO (clinkerlaw05_NandOff.l0 k y0 y1 y2 y3 y4 y5 y6 y7 y8) (clinkerlaw05_NandOff.l0 (k + 1) y0 y1 y2 y3 y4 y5 y6 y7 y8))
 | 0 => ⟨fun _ _ _ _ _ _ _ r h => by simp [clinkerlaw05_NandOff.j1] at h, fun _ _ _ _ _ _ _ _ _ r h => by simp [clinkerlaw05_NandOff.l0] at h⟩
 | k + 1 => by
  obtain ⟨ih0, ih1⟩ := clinkerlaw05_NandOff.mono_l k
  refine ⟨?_, ?_⟩
  ·
   intro y0 y1 y2 y3 y4 y5 y6
   unfold clinkerlaw05_NandOff.j1
   repeat' first
   | (with_reducible exact ih0 _ _ _ _ _ _ _)
   | (with_reducible exact ih1 _ _ _ _ _ _ _ _ _)
   | (with_reducible exact clinkerlaw05_done.mono _ _ _ _ _ _ _ _ _ _ _)
   | (with_reducible exact LeO.refl _)
   | (with_reducible exact LeO.none _)
   | (with_reducible refine LeO.ite ?_ ?_)
   | (with_reducible refine LeO.bind ?_ (fun _ => ?_))
   | exact ih0 _ _ _ _ _ _ _
   | exact ih1 _ _ _ _ _ _ _ _ _
   | exact clinkerlaw05_done.mono _ _ _ _ _ _ _ _ _ _ _
   | exact LeO.none _
   | refine LeO.ite ?_ ?_
   | refine LeO.bind ?_ (fun _ => ?_)
  ·
   intro y0 y1 y2 y3 y4 y5 y6 y7 y8
   unfold clinkerlaw05_NandOff.l0
   repeat' first
   | (with_reducible exact ih0 _ _ _ _ _ _ _)
   | (with_reducible exact ih1 _ _ _ _ _ _ _ _ _)
   | (with_reducible exact clinkerlaw05_done.mono _ _ _ _ _ _ _ _ _ _ _)
   | (with_reducible exact LeO.refl _)
   | (with_reducible exact LeO.none _)
   | (with_reducible refine LeO.ite ?_ ?_)
   | (with_reducible refine LeO.bind ?_ (fun _ => ?_))
   | exact ih0 _ _ _ _ _ _ _
   | exact ih1 _ _ _ _ _ _ _ _ _
   | exact clinkerlaw05_done.mono _ _ _ _ _ _ _ _ _ _ _
   | exact LeO.none _
   | refine LeO.ite ?_ ?_
   | refine LeO.bind ?_ (fun _ => ?_)
theorem clinkerlaw05_NandOff.mono : ∀ a0 a1 a2 a3 k, LeO (clinkerlaw05_NandOff.f k a0 a1 a2 a3) (clinkerlaw05_NandOff.f (k + 1) a0 a1 a2 a3) := by
 intro a0 a1 a2 a3 k
 obtain ⟨ih0, ih1⟩ := clinkerlaw05_NandOff.mono_l k
 unfold clinkerlaw05_NandOff.f
 repeat' first
   | (with_reducible exact ih0 _ _ _ _ _ _ _)
   | (with_reducible exact ih1 _ _ _ _ _ _ _ _ _)
   | (with_reducible exact clinkerlaw05_done.mono _ _ _ _ _ _ _ _ _ _ _)
   | (with_reducible exact LeO.refl _)
   | (with_reducible exact LeO.none _)
   | (with_reducible refine LeO.ite ?_ ?_)
   | (with_reducible refine LeO.bind ?_ (fun _ => ?_))
   | exact ih0 _ _ _ _ _ _ _
   | exact ih1 _ _ _ _ _ _ _ _ _
   | exact clinkerlaw05_done.mono _ _ _ _ _ _ _ _ _ _ _
   | exact LeO.none _
   | refine LeO.ite ?_ ?_
   | refine LeO.bind ?_ (fun _ => ?_)
def clinkerlaw05_NandOff.T8 : Bool × List (List Nat × List Nat) := (true, [([], []), ([], []), ([], []), ([1, 2], [1, 2]), ([3], [3]), ([0, 4], [0, 4]), ([5], [5]), ([6], [6]), ([6], [6]), ([6], [6]), ([7, 5, 0, 1, 2, 3, 4, 5, 6, 7], [7])])
def clinkerlaw05_NandOff.B8 : List Nat := [0, 0, 0, 6, 14, 31, 63, 127, 127, 127, 255]
theorem clinkerlaw05_NandOff.tab8 : rtab .any (opsOf Try.f9 8) = clinkerlaw05_NandOff.T8 := by kernel_rfl
theorem clinkerlaw05_NandOff.bits8 : waitsOk clinkerlaw05_NandOff.T8.2 clinkerlaw05_NandOff.B8 = true := by kernel_rfl
def clinkerlaw05_NandOff.T15 : Bool × List (List Nat × List Nat) := (true, [([], []), ([0], [0]), ([1], [1]), ([2, 1], [1, 2]), ([1, 3], [1, 3]), ([4, 1], [4]), ([5], [5]), ([6, 5], [5, 6]), ([5, 7], [5, 7]), ([8, 5], [8]), ([9], [9]), ([10, 9], [9, 10]), ([9, 11], [9, 11]), ([12, 9], [12]), ([13], [13]), ([14, 13], [13, 14]), ([15, 13], [13, 15]), ([13, 16], [13, 16]), ([17, 13], [17]), ([18], [18]), ([18], [18]), ([19, 20, 18, 18], [18, 19, 20]), ([18, 21], [18, 21]), ([22, 21], [22]), ([23], [23]), ([23], [23]), ([24, 25, 23, 23], [23, 24, 25]), ([23, 26], [23, 26]), ([27, 26], [27]), ([28], [28]), ([29, 28, 28], [28, 29]), ([28], [28]), ([30, 31, 30, 28], [28, 30, 31]), ([28, 32], [28, 32]), ([33, 32, 0, 1, 2, 3, 4, 5, 6, 7, 8, 9, 10, 11, 12, 13, 14, 15, 16, 17, 18, 19, 20, 21, 22, 23, 24, 25, 26, 27, 28, 29, 30, 31, 32, 33], [33])])
def clinkerlaw05_NandOff.B15 : List Nat := [0, 1, 3, 7, 15, 31, 63, 127, 255, 511, 1023, 2047, 4095, 8191, 16383, 32767, 65535, 131071, 262143, 524287, 524287, 2097151, 4194303, 8388607, 16777215, 16777215, 67108863, 134217727, 268435455, 536870911, 1073741823, 536870911, 4294967295, 8589934591, 17179869183]
theorem clinkerlaw05_NandOff.tab15 : rtab .any (opsOf Try.f9 15) = clinkerlaw05_NandOff.T15 := by kernel_rfl
theorem clinkerlaw05_NandOff.bits15 : waitsOk clinkerlaw05_NandOff.T15.2 clinkerlaw05_NandOff.B15 = true := by kernel_rfl
set_option maxHeartbeats 8000000 in
set_option maxRecDepth 100000 in
theorem clinkerlaw05_NandOff.calls (k : Nat) (A0 : Option Addr) (c0 : Nat) (l0 : List (S37)) (a1 : Int) (a2 : Int) (a3 : Int) (r : Bool) (hrt : Aside0 (r = true)) (w : World) (hr0 : Kd.C k37 w A0 l0.length l0) (hc0 : l0.length ≤ c0) (h : clinkerlaw05_NandOff.f k l0 a1 a2 a3 = some r) :
  Calls Try.prog 9 #[.slice A0 l0.length c0, .int .u8 a1, .int .u8 a2, .int .u8 a3] w fun e w' => e = .returned (.bool r) ∧ Below w.heap.size w w' := by
 have hu27 := Try.underlying27
 have hu37 := Try.underlying37
 have hu46 := Try.underlying46
 have hu41 := Try.underlying41
 have HR0 := Aside0.mk hr0
 have HC0 := Aside0.mk hc0
 clear hr0 hc0
 have HB := Aside0.mk (Below.refl w.heap.size w)
 have H : ((clinkerlaw05_awake.f).bind fun t403 => (if t403 = true then ((clinkerref05_New.f 3 (wrap64 (1 + (Int.tmod (wrap64 (a1)) 5))) ([] : List Int)).bind fun bt404 => (clinkerlaw05_NandOff.l0 k l0 a2 a3 t403 0 bt404.1 bt404.2.1 bt404.2.2.1 bt404.2.2.2.1)) else (some false))) = some r := h
 clear h
 replace H := Option.bind_eq_some_iff.mp H
 obtain ⟨t403, A50, H⟩ := H
 replace H : (if t403 = true then ((clinkerref05_New.f 3 (wrap64 (1 + (Int.tmod (wrap64 (a1)) 5))) ([] : List Int)).bind fun bt404 => (clinkerlaw05_NandOff.l0 k l0 a2 a3 t403 0 bt404.1 bt404.2.1 bt404.2.2.1 bt404.2.2.2.1)) else (some false)) = some r := H
 have A5 := Aside0.mk A50
 clear A50
 by_cases c6 : t403 = true
 ·
  subst c6
  have H1 : ((clinkerref05_New.f 3 (wrap64 (1 + (Int.tmod (wrap64 (a1)) 5))) ([] : List Int)).bind fun bt404 => (clinkerlaw05_NandOff.l0 k l0 a2 a3 true 0 bt404.1 bt404.2.1 bt404.2.2.1 bt404.2.2.2.1)) = some r := by rw [if_pos rfl] at H; exact H
  clear H
  have H := H1
  clear H1
  replace H := Option.bind_eq_some_iff.mp H
  obtain ⟨⟨t404, t407, t408, t409, t410⟩, A70, H⟩ := H
  replace H : (clinkerlaw05_NandOff.l0 k l0 a2 a3 true 0 t404 t407 t408 t409) = some r := H
  have A7 := Aside0.mk A70
  clear A70
  have HC8 := Aside0.mk H
  clear H
  go_enter Try.func9, Try.ntmps9
  go_upto_block 0 with (first | ((with_reducible refine gate_callee (f := 11) rfl ?_); refine goesL_ (some 20) rfl rfl Try.func11 (by kernel_rfl) rfl #[] rfl (by (try simp only [List.map_toArray, List.map_cons, List.map_nil]); first | done | rfl | (simp only [List.length_drop, List.length_take]; rfl)) ?_; (with_reducible refine (clinkerlaw05_awake.calls  true _ A5.out).mono ?_); rintro e w9 ⟨rfl, hb⟩; refine ⟨_, rfl, ?_⟩; have n0_ := Aside0.mk (below_step (by repeat (first | exact HB.out | apply below_alloc | apply pw_below_drewN | apply below_drew1)) hb); clear HB; have HB := n0_; clear n0_; (try clear hb); (try clear hb2); (try clear hk); (try clear hi)) | ((with_reducible refine gate_callee (f := 13) rfl ?_); refine goesL_ (some 28) rfl rfl Try.func13 (by kernel_rfl) rfl #[.int .i64 3, .int .i64 (wrap64 (1 + (Int.tmod (wrap64 (a1)) 5))), .slice none 0 0] rfl (by (try simp only [List.map_toArray, List.map_cons, List.map_nil]); first | done | rfl | (simp only [List.length_drop, List.length_take]; rfl)) ?_; (refine (clinkerref05_New.calls 3 (wrap64 (1 + (Int.tmod (wrap64 (a1)) 5))) _ _ ([] : List Int) t404 t407 t408 t409 t410 _ ?side1 ?side2 A7.out).mono ?_); (case side1 => exact Kd.C_nil _ _); (case side2 => exact Nat.le_refl _); rintro e w10 ⟨v405, rfl, ho0, hb⟩; refine ⟨_, rfl, ?_⟩; have n0_ := Aside0.mk (Kd.V_lower (Kd.V_mono (ok' := fun k_ => True) ho0 (fun k_ hk_ => trivial)) (below_size (by repeat (first | exact HB.out | apply below_alloc | apply pw_below_drewN | apply below_drew1)))); have n1_ := Aside0.mk (below_step (by repeat (first | exact HB.out | apply below_alloc | apply pw_below_drewN | apply below_drew1)) hb); clear HB; have HO406 := n0_; have HB := n1_; clear n0_ n1_; (try clear hb); (try clear hb2); (try clear hk); (try clear hi); (try clear ho0)) | ((with_reducible refine gate_dst (N := 10) rfl ?_); refine box_event ?hg (N := 10) ?hd (cs := #[.slice none 0 0, .bool false, .bool false, .int .i64 0]) (t := 27) ?hr ?_; (case hd => rfl); (case hg => rfl); (case hr => first | (go_simp; done) | (go_simp; rfl)); intro gb411 hg w11 hbox hb; have n0_ := Aside0.mk (Kd.V_below (Kd.V_elderB (by (with_reducible repeat (first | apply Kd.V_alloc | apply Kd.V_drewN | apply Kd.V_drew)); exact HO406.out) gb411 (Nat.le_of_eq hg.symm)) hb); have n1_ := Aside0.mk (below_step (by repeat (first | exact HB.out | apply below_alloc | apply pw_below_drewN | apply below_drew1)) hb); have n2_ := Aside0.mk (hbox); have n3_ := Aside0.mk ((by rw [hg]; exact (below_size (by repeat (first | exact HB.out | apply below_alloc | apply pw_below_drewN | apply below_drew1))) : w.heap.size ≤ gb411)); have n4_ := Aside0.mk ((by rw [hg]; exact (below_size (by repeat (first | exact HB.out | apply below_alloc | apply pw_below_drewN | apply below_drew1))) : w.heap.size ≤ gb411)); clear HO406; clear HB; have HO406 := n0_; have HB := n1_; have BK411 := n2_; have GW411 := n3_; have GE411 := n4_; clear n0_ n1_ n2_ n3_ n4_; clear hb hbox hg; obtain ⟨Ao12, co12, eo12⟩ := Kd.V_slice HO406.out; subst eo12; have hcz13_0 : w11.cell? ⟨gb411, 0, none⟩ = some (.slice none 0 0) := (blk_cell BK411.out 0).trans rfl; have hcz13_1 : w11.cell? ⟨gb411, 1, none⟩ = some (.bool false) := (blk_cell BK411.out 1).trans rfl; have hcz13_2 : w11.cell? ⟨gb411, 2, none⟩ = some (.bool false) := (blk_cell BK411.out 2).trans rfl; have hcz13_3 : w11.cell? ⟨gb411, 3, none⟩ = some (.int .i64 0) := (blk_cell BK411.out 3).trans rfl; have hfz13_0 := blk_frozen BK411.out 0; have hfz13_1 := blk_frozen BK411.out 1; have hfz13_2 := blk_frozen BK411.out 2; have hfz13_3 := blk_frozen BK411.out 3))
  (try simp only [Act.put, List.setIfInBounds_toArray, List.set_cons_zero, List.set_cons_succ])
  go_cut [] (fun wc => ∃ (kq : Nat) (x412000_7 : List (S44)) (x412001_7 : Bool) (x412002_7 : Bool) (x412003_7 : Int) (u412000 : Value), Aside0 (clinkerlaw05_NandOff.j1 kq a2 a3 true x412000_7 x412001_7 x412002_7 x412003_7 = some r) ∧ Aside0 (kq ≤ k) ∧ Aside0 (Kd.V k44 44 wc w.heap.size (fun k_ => k_ ≠ gb411) u412000 x412000_7) ∧ Aside0 (wc.heap[gb411]? = some (.cells #[u412000, .bool x412001_7, .bool x412002_7, .int .i64 x412003_7] 27 (0, 0))) ∧ Aside0 (Below w.heap.size w wc))
  case first =>
   have H := HC8.out
   clear HC8
   have H' := Aside0.mk H
   clear H
   go_wp2
   go_loopg [12] k (fun kq v12 w' => ∃ (x12_1 : Int) (x412000_1 : List (S44)) (x412001_1 : Bool) (x412002_1 : Bool) (x412003_1 : Int) (u412000 : Value), v12 = .int .i64 x12_1 ∧ Aside0 (clinkerlaw05_NandOff.l0 kq l0 a2 a3 true x12_1 x412000_1 x412001_1 x412002_1 x412003_1 = some r) ∧ Aside0 (kq ≤ k) ∧ Aside0 (Kd.V k44 44 w' w.heap.size (fun k_ => k_ ≠ gb411) u412000 x412000_1) ∧ Aside0 (w'.heap[gb411]? = some (.cells #[u412000, .bool x412001_1, .bool x412002_1, .int .i64 x412003_1] 27 (0, 0))) ∧ Aside0 (Below w.heap.size w w'))
   case atStart => exact ⟨(0), (t404), (t407), (t408), (t409), (.slice Ao12 t404.length co12), (by first | rfl | (simp; done) | (simp [*]; done)), H', ⟨Nat.le_refl _⟩, ⟨by (with_reducible repeat (first | apply Kd.V_alloc | apply Kd.V_drewN | apply Kd.V_drew)); exact Kd.V_mono (Kd.V_far (p := ⟨gb411, 3, none⟩) (Kd.V_far (p := ⟨gb411, 2, none⟩) (Kd.V_far (p := ⟨gb411, 1, none⟩) (Kd.V_far (p := ⟨gb411, 0, none⟩) (Kd.V_mono HO406.out (fun k_ hk => (⟨hk, hk.2⟩ : _ ∧ k_ ≠ gb411))) (fun _ hk => hk.2) _) (fun _ hk => hk.2) (.bool t407)) (fun _ hk => hk.2) (.bool t408)) (fun _ hk => hk.2) _) (fun _ hk => hk.1.2)⟩, ⟨by (with_reducible repeat (first | apply blk_drewN | apply blk_drew | apply blk_alloc)); refine blk_put (cs := #[.slice Ao12 t404.length co12, .bool t407, .bool t408, .int .i64 0]) ?_ 3 _ rfl; (with_reducible repeat (first | apply blk_drewN | apply blk_drew | apply blk_alloc)); refine blk_put (cs := #[.slice Ao12 t404.length co12, .bool t407, .bool false, .int .i64 0]) ?_ 2 _ rfl; (with_reducible repeat (first | apply blk_drewN | apply blk_drew | apply blk_alloc)); refine blk_put (cs := #[.slice Ao12 t404.length co12, .bool false, .bool false, .int .i64 0]) ?_ 1 _ rfl; (with_reducible repeat (first | apply blk_drewN | apply blk_drew | apply blk_alloc)); refine blk_put (cs := #[.slice none 0 0, .bool false, .bool false, .int .i64 0]) ?_ 0 _ rfl; (with_reducible repeat (first | apply blk_drewN | apply blk_drew | apply blk_alloc)); exact BK411.out⟩, ⟨by repeat (first | exact HB.out | apply below_alloc | apply pw_below_drewN | apply below_drew1 | refine below_set ?_ GE411.out)⟩⟩
   case round =>
    clear H'
    try clear c1
    try clear p2
    try clear c6
    try clear p6
    try clear c9
    try clear c11
    try clear c13
    try clear hcz13_0
    try clear hcz13_1
    try clear hcz13_2
    try clear hcz13_3
    try clear hfz13_0
    try clear hfz13_1
    try clear hfz13_2
    try clear hfz13_3
    obtain ⟨x12_1, x412000_1, x412001_1, x412002_1, x412003_1, u412000, rfl, HA, HK1, HO_412000, BK411, HB⟩ := hrel
    cases gk with
    | zero => exact absurd HA.out (by simp [clinkerlaw05_NandOff.l0])
    | succ k1 =>
     have H := HA.out
     clear HA
     simp only [clinkerlaw05_NandOff.l0] at H
     by_cases c14 : x12_1 < (l0.length : Int)
     ·
      rw [if_pos c14] at H
      have c14b0 : decide (x12_1 < (l0.length : Int)) = true := decide_eq_true c14
      clear c14
      (first | rw [c14b0] | (simp only [i64_w, i32_w]; rw [c14b0]) | skip)
      by_cases c15 : x12_1 < 12
      ·
       rw [if_pos c15] at H
       have c15b0 : decide (x12_1 < 12) = true := decide_eq_true c15
       clear c15
       by_cases c16 : 0 ≤ x12_1
       ·
        rw [if_pos c16] at H
        have c16b0 : decide (0 ≤ x12_1) = true := decide_eq_true c16
        clear c16
        replace H := Option.bind_eq_some_iff.mp H
        obtain ⟨⟨t413, t416, t417, t418, t419, t420⟩, A170, H⟩ := H
        replace H : (clinkerlaw05_NandOff.l0 k1 l0 a2 a3 true (wrap64 (x12_1 + 1)) t413 t416 t417 t418) = some r := H
        have A17 := Aside0.mk A170
        clear A170
        have H' := Aside0.mk H
        clear H
        try go_wp2
        have n0_ := Aside0.mk (Kd.V_drew HO_412000.out)
        have n1_ := Aside0.mk (blk_drew BK411.out)
        have n2_ := Aside0.mk (below_drew1 HB.out)
        clear HO_412000
        clear BK411
        clear HB
        have HO_412000 := n0_
        have BK411 := n1_
        have HB := n2_
        clear n0_ n1_ n2_
        have p412 : 0 ≤ (x12_1 : Int) := of_decide_eq_true (by first | (with_reducible assumption) | assumption)
        have q412 : x12_1 < (l0.length : Int) := of_decide_eq_true (by first | (with_reducible assumption) | assumption)
        obtain ⟨ad412, e412, hx412_0, hx412_1, hx412_2, hx412_3, hx412_4, hx412_5⟩ := at_T37 HR0.out x12_1 p412 q412
        have hw412_5 := hx412_5
        have hw412_4 := hx412_4
        have hw412_3 := hx412_3
        have hw412_2 := hx412_2
        have hw412_1 := hx412_1
        have hw412_0 := hx412_0
        cases e412
        replace hx412_0 := (HB.out.cell (World.block_lt_of_cell? w _ hx412_0)).trans hx412_0
        replace hx412_1 := (HB.out.cell (World.block_lt_of_cell? w _ hx412_1)).trans hx412_1
        replace hx412_2 := (HB.out.cell (World.block_lt_of_cell? w _ hx412_2)).trans hx412_2
        replace hx412_3 := (HB.out.cell (World.block_lt_of_cell? w _ hx412_3)).trans hx412_3
        replace hx412_4 := (HB.out.cell (World.block_lt_of_cell? w _ hx412_4)).trans hx412_4
        replace hx412_5 := (HB.out.cell (World.block_lt_of_cell? w _ hx412_5)).trans hx412_5
        replace p412 := eq_true p412
        replace q412 := eq_true q412
        obtain ⟨Ao19, co19, eo19⟩ := Kd.V_slice HO_412000.out
        (first | subst eo19 | (injection eo19 with f1_ f2_ f3_; have f4_ := f1_.symm; have f5_ := f3_.symm; clear f1_ f2_ f3_; subst f4_; subst f5_))
        refine start_ (n := 11) (S := fun w' => w'.cell? ⟨gb411, 0, none⟩ = some (.slice Ao19 x412000_1.length co19) ∧ w'.cell? ⟨gb411, 1, none⟩ = some (.bool x412001_1) ∧ w'.cell? ⟨gb411, 2, none⟩ = some (.bool x412002_1) ∧ w'.cell? ⟨gb411, 3, none⟩ = some (.int .i64 x412003_1) ∧ w'.cell? (ad412.add ((x12_1).toNat * 6)) = some (.int .u8 ((rd_T37 l0 x12_1).f0)) ∧ w'.cell? ⟨(ad412.add ((x12_1).toNat * 6)).block, (ad412.add ((x12_1).toNat * 6)).off + 1, none⟩ = some (.int .u8 ((rd_T37 l0 x12_1).f1)) ∧ w'.cell? ⟨(ad412.add ((x12_1).toNat * 6)).block, (ad412.add ((x12_1).toNat * 6)).off + 2, none⟩ = some (.int .u8 ((rd_T37 l0 x12_1).f2)) ∧ w'.cell? ⟨(ad412.add ((x12_1).toNat * 6)).block, (ad412.add ((x12_1).toNat * 6)).off + 3, none⟩ = some (.int .u8 ((rd_T37 l0 x12_1).f3)) ∧ w'.cell? ⟨(ad412.add ((x12_1).toNat * 6)).block, (ad412.add ((x12_1).toNat * 6)).off + 4, none⟩ = some (.string ((rd_T37 l0 x12_1).f4)) ∧ w'.cell? ⟨(ad412.add ((x12_1).toNat * 6)).block, (ad412.add ((x12_1).toNat * 6)).off + 5, none⟩ = some (.string ((rd_T37 l0 x12_1).f5))) (ds := [10]) #[false, false, false, false, false, false, false, false, false, false, false] (by kernel_rfl) rfl rfl ⟨(blk_cell BK411.out 0).trans rfl, (blk_cell BK411.out 1).trans rfl, (blk_cell BK411.out 2).trans rfl, (blk_cell BK411.out 3).trans rfl, ((HB.out.cell (World.block_lt_of_cell? w _ hw412_0)).trans hw412_0), ((HB.out.cell (World.block_lt_of_cell? w _ hw412_1)).trans hw412_1), ((HB.out.cell (World.block_lt_of_cell? w _ hw412_2)).trans hw412_2), ((HB.out.cell (World.block_lt_of_cell? w _ hw412_3)).trans hw412_3), ((HB.out.cell (World.block_lt_of_cell? w _ hw412_4)).trans hw412_4), ((HB.out.cell (World.block_lt_of_cell? w _ hw412_5)).trans hw412_5)⟩ (fun hHeld => ?_); refine with_tabW clinkerlaw05_NandOff.tab8 clinkerlaw05_NandOff.bits8 (fun HT_ HW_ => ?_)
        generalize wr.drew = w18 at HO_412000 BK411 HB hx412_0 hx412_1 hx412_2 hx412_3 hx412_4 hx412_5 hHeld ⊢
        refine pure_ (i := 1) (N := some 43) (v := ?_) (a' := ?_) #[false, true, false, false, false, false, false, false, false, false, false] rfl rfl (any_of HT_.out (by kernel_rfl)) (fun _ _ _ h => h) (Or.inl ⟨by rfl, ?_⟩) ?_ ?_
        rotate_left
        ·
         intro w'
         go_simp
         with_reducible rfl
        rotate_left
        ·
         simp only [Act.put, List.setIfInBounds_toArray, List.set_cons_zero, List.set_cons_succ, i64_w, i32_w]
         rfl
        refine pure_ (i := 2) (N := some 44) (v := ?_) (a' := ?_) #[false, true, true, false, false, false, false, false, false, false, false] rfl rfl (any_of HT_.out (by kernel_rfl)) (fun _ _ _ h => h) (Or.inl ⟨by rfl, ?_⟩) ?_ ?_
        rotate_left
        ·
         intro w'
         go_simp
         with_reducible rfl
        rotate_left
        ·
         simp only [Act.put, List.setIfInBounds_toArray, List.set_cons_zero, List.set_cons_succ, i64_w, i32_w]
         rfl
        refine pure_ (i := 3) (N := some 45) (v := ?_) (a' := ?_) #[false, true, true, true, false, false, false, false, false, false, false] rfl rfl (any_of HT_.out (by kernel_rfl)) (fun _ _ _ h => h) (Or.inl ⟨by rfl, ?_⟩) ?_ ?_
        rotate_left
        ·
         intro w'
         go_simp
         with_reducible rfl
        rotate_left
        ·
         simp only [Act.put, List.setIfInBounds_toArray, List.set_cons_zero, List.set_cons_succ, i64_w, i32_w]
         rfl
        refine take_ (i := 0) (N := some 42) (v := ?_) (a' := ?_) #[true, true, true, true, false, false, false, false, false, false, false] rfl rfl (take_ofW HT_.out HW_.out (by kernel_rfl)) (fun _ _ _ h => h) (Or.inl ⟨by rfl, ?_⟩) hHeld ?_ ?_
        rotate_left
        ·
         rintro w' ⟨s0, s1, s2, s3, s4, s5, s6, s7, s8, s9⟩
         go_simp
         with_reducible rfl
        rotate_left
        ·
         simp only [Act.put, List.setIfInBounds_toArray, List.set_cons_zero, List.set_cons_succ, i64_w, i32_w]
         rfl
        refine take_ (i := 4) (N := some 46) (v := ?_) (a' := ?_) #[true, true, true, true, true, false, false, false, false, false, false] rfl rfl (take_ofW HT_.out HW_.out (by kernel_rfl)) (fun _ _ _ h => h) (Or.inl ⟨by rfl, ?_⟩) hHeld ?_ ?_
        rotate_left
        ·
         rintro w' ⟨s0, s1, s2, s3, s4, s5, s6, s7, s8, s9⟩
         go_simp
         with_reducible rfl
        rotate_left
        ·
         simp only [Act.put, List.setIfInBounds_toArray, List.set_cons_zero, List.set_cons_succ, i64_w, i32_w]
         rfl
        refine one_ (i := 5) (N := some 47) #[true, true, true, true, true, true, false, false, false, false, false] rfl rfl (one_of HT_.out (by kernel_rfl)) (by decide) (fun K hK => ?_)
        refine goes_ Try.func15 (by kernel_rfl) rfl #[.agg #[.slice Ao19 x412000_1.length co19, .bool x412001_1, .bool x412002_1, .int .i64 x412003_1], .agg #[.int .u8 ((rd_T37 l0 x12_1).f0), .int .u8 ((rd_T37 l0 x12_1).f1), .int .u8 ((rd_T37 l0 x12_1).f2), .int .u8 ((rd_T37 l0 x12_1).f3), .string ((rd_T37 l0 x12_1).f4), .string ((rd_T37 l0 x12_1).f5)]] (by rfl) rfl rfl (by (try simp only [List.map_toArray, List.map_cons, List.map_nil]); first | done | rfl | (simp only [List.length_drop, List.length_take]; rfl)) ?_
        with_reducible refine (clinkerlaw05_done.calls k1 _ _ x412000_1 x412001_1 x412002_1 x412003_1 ((rd_T37 l0 x12_1).f0) ((rd_T37 l0 x12_1).f1) ((rd_T37 l0 x12_1).f2) ((rd_T37 l0 x12_1).f3) ((rd_T37 l0 x12_1).f4) ((rd_T37 l0 x12_1).f5) t413 t416 t417 t418 t419 t420 _ ?side1 ?side2 A17.out).mono ?_
        (case side1 => repeat (first | exact (Kd.V_reads' HO_412000.out).2.2 | (with_reducible refine Kd.C_alloc ?_ _) | (with_reducible refine Kd.C_drewN ?_ _) | (with_reducible refine Kd.C_drew ?_)))
        (case side2 => exact (Kd.V_reads' HO_412000.out).2.1)
        rintro e w20 ⟨v414, rfl, ho0, hb⟩
        refine ⟨_, rfl, ?_⟩
        have n0_ := Aside0.mk (Kd.V_below (by (with_reducible repeat (first | apply Kd.V_alloc | apply Kd.V_drewN | apply Kd.V_drew)); exact HO_412000.out) hb)
        have n1_ := Aside0.mk (Kd.V_lower (Kd.V_mono (ok' := fun k_ => k_ ≠ gb411) ho0 (fun k_ hk_ => (Kd.freshB (g := gb411) (o := .cells #[.slice Ao19 x412000_1.length co19, .bool x412001_1, .bool x412002_1, .int .i64 x412003_1] 27 (0, 0)) (by (with_reducible repeat (first | apply blk_drewN | apply blk_drew | apply blk_alloc)); exact BK411.out) k_ hk_))) (below_size (by repeat (first | exact HB.out | apply below_alloc | apply pw_below_drewN | apply below_drew1 | refine below_set ?_ GE411.out))))
        have n2_ := Aside0.mk (blk_below (g := gb411) (o := .cells #[.slice Ao19 x412000_1.length co19, .bool x412001_1, .bool x412002_1, .int .i64 x412003_1] 27 (0, 0)) (by (with_reducible repeat (first | apply blk_drewN | apply blk_drew | apply blk_alloc)); exact BK411.out) hb)
        have n3_ := Aside0.mk (below_step (by repeat (first | exact HB.out | apply below_alloc | apply pw_below_drewN | apply below_drew1 | refine below_set ?_ GE411.out)) hb)
        clear HO_412000
        clear BK411
        clear HB
        have HO_412000 := n0_
        have HO415 := n1_
        have BK411 := n2_
        have HB := n3_
        clear n0_ n1_ n2_ n3_
        (try clear hb)
        (try clear hb2)
        (try clear hk)
        (try clear hi)
        (try clear ho0)
        obtain ⟨Ao21, co21, eo21⟩ := Kd.V_slice HO415.out
        (first | subst eo21 | (injection eo21 with f1_ f2_ f3_; have f4_ := f1_.symm; have f5_ := f3_.symm; clear f1_ f2_ f3_; subst f4_; subst f5_))
        refine hK.out _ _ ⟨(blk_cell BK411.out 0).trans rfl, (blk_cell BK411.out 1).trans rfl, (blk_cell BK411.out 2).trans rfl, (blk_cell BK411.out 3).trans rfl, ((HB.out.cell (World.block_lt_of_cell? w _ hw412_0)).trans hw412_0), ((HB.out.cell (World.block_lt_of_cell? w _ hw412_1)).trans hw412_1), ((HB.out.cell (World.block_lt_of_cell? w _ hw412_2)).trans hw412_2), ((HB.out.cell (World.block_lt_of_cell? w _ hw412_3)).trans hw412_3), ((HB.out.cell (World.block_lt_of_cell? w _ hw412_4)).trans hw412_4), ((HB.out.cell (World.block_lt_of_cell? w _ hw412_5)).trans hw412_5)⟩ (fun hHeld => ?_)
        clear hK K
        refine norm_ (a' := ?_) ?_ ?_
        rotate_left
        ·
         show Act.put _ (some 47) _ = _
         simp only [Act.put, List.setIfInBounds_toArray, List.set_cons_zero, List.set_cons_succ, i64_w, i32_w]
         rfl
        refine pure_ (i := 6) (N := some 41) (v := ?_) (a' := ?_) #[true, true, true, true, true, true, true, false, false, false, false] rfl rfl (any_of HT_.out (by kernel_rfl)) (fun _ _ _ h => h) (Or.inl ⟨by rfl, ?_⟩) ?_ ?_
        rotate_left
        ·
         intro w'
         go_simp
         with_reducible rfl
        rotate_left
        ·
         simp only [Act.put, List.setIfInBounds_toArray, List.set_cons_zero, List.set_cons_succ, i64_w, i32_w]
         rfl
        refine pure_ (i := 7) (N := some 48) (v := ?_) (a' := ?_) #[true, true, true, true, true, true, true, true, false, false, false] rfl rfl (any_of HT_.out (by kernel_rfl)) (fun _ _ _ h => h) (Or.inl ⟨by rfl, ?_⟩) ?_ ?_
        rotate_left
        ·
         intro w'
         go_simp
         with_reducible rfl
        rotate_left
        ·
         simp only [Act.put, List.setIfInBounds_toArray, List.set_cons_zero, List.set_cons_succ, i64_w, i32_w]
         rfl
        refine pure_ (i := 8) (N := some 49) (v := ?_) (a' := ?_) #[true, true, true, true, true, true, true, true, true, false, false] rfl rfl (any_of HT_.out (by kernel_rfl)) (fun _ _ _ h => h) (Or.inl ⟨by rfl, ?_⟩) ?_ ?_
        rotate_left
        ·
         intro w'
         go_simp
         with_reducible rfl
        rotate_left
        ·
         simp only [Act.put, List.setIfInBounds_toArray, List.set_cons_zero, List.set_cons_succ, i64_w, i32_w]
         rfl
        refine pure_ (i := 9) (N := some 50) (v := ?_) (a' := ?_) #[true, true, true, true, true, true, true, true, true, true, false] rfl rfl (any_of HT_.out (by kernel_rfl)) (fun _ _ _ h => h) (Or.inl ⟨by rfl, ?_⟩) ?_ ?_
        rotate_left
        ·
         intro w'
         go_simp
         with_reducible rfl
        rotate_left
        ·
         simp only [Act.put, List.setIfInBounds_toArray, List.set_cons_zero, List.set_cons_succ, i64_w, i32_w]
         rfl
        refine last_ (i := 10) (N := none) #[true, true, true, true, true, true, true, true, true, true, true] rfl rfl (one_of HT_.out (by kernel_rfl)) (by decide) (fun K hK => ?_)
        have hs22 : w20.cell? ⟨gb411, 0, none⟩ = some (.slice Ao19 x412000_1.length co19) := (blk_cell BK411.out 0).trans rfl
        have hfs22 := blk_frozen BK411.out 0
        have hs23 : w20.cell? ⟨gb411, 1, none⟩ = some (.bool x412001_1) := (blk_cell BK411.out 1).trans rfl
        have hfs23 := blk_frozen BK411.out 1
        have hs24 : w20.cell? ⟨gb411, 2, none⟩ = some (.bool x412002_1) := (blk_cell BK411.out 2).trans rfl
        have hfs24 := blk_frozen BK411.out 2
        have hs25 : w20.cell? ⟨gb411, 3, none⟩ = some (.int .i64 x412003_1) := (blk_cell BK411.out 3).trans rfl
        have hfs25 := blk_frozen BK411.out 3
        refine skip_ (w1 := ?_) (by rfl) rfl ?_ ?_
        rotate_left
        ·
         go_simp
         rfl
        refine hK.out _ _ ?_
        clear hK K
        refine done_ (done_of HT_.out (by kernel_rfl)) ?_
        try go_wp2
        go_roundg k1
        case measure => have := HK1.out; omega
        case rel => exact ⟨(wrap64 (x12_1 + 1)), (t413), (t416), (t417), (t418), (.slice Ao21 t413.length co21), (by first | rfl | (simp; done) | (simp [*]; done)), H', ⟨by have := HK1.out; omega⟩, ⟨by (with_reducible repeat (first | apply Kd.V_alloc | apply Kd.V_drewN | apply Kd.V_drew)); exact Kd.V_mono (Kd.V_far (p := ⟨gb411, 3, none⟩) (Kd.V_far (p := ⟨gb411, 2, none⟩) (Kd.V_far (p := ⟨gb411, 1, none⟩) (Kd.V_far (p := ⟨gb411, 0, none⟩) (Kd.V_mono HO415.out (fun k_ hk => (⟨hk, hk⟩ : _ ∧ k_ ≠ gb411))) (fun _ hk => hk.2) _) (fun _ hk => hk.2) (.bool t416)) (fun _ hk => hk.2) (.bool t417)) (fun _ hk => hk.2) _) (fun _ hk => hk.1)⟩, ⟨by (with_reducible repeat (first | apply blk_drewN | apply blk_drew | apply blk_alloc)); refine blk_put (cs := #[.slice Ao21 t413.length co21, .bool t416, .bool t417, .int .i64 x412003_1]) ?_ 3 _ rfl; (with_reducible repeat (first | apply blk_drewN | apply blk_drew | apply blk_alloc)); refine blk_put (cs := #[.slice Ao21 t413.length co21, .bool t416, .bool x412002_1, .int .i64 x412003_1]) ?_ 2 _ rfl; (with_reducible repeat (first | apply blk_drewN | apply blk_drew | apply blk_alloc)); refine blk_put (cs := #[.slice Ao21 t413.length co21, .bool x412001_1, .bool x412002_1, .int .i64 x412003_1]) ?_ 1 _ rfl; (with_reducible repeat (first | apply blk_drewN | apply blk_drew | apply blk_alloc)); refine blk_put (cs := #[.slice Ao19 x412000_1.length co19, .bool x412001_1, .bool x412002_1, .int .i64 x412003_1]) ?_ 0 _ rfl; (with_reducible repeat (first | apply blk_drewN | apply blk_drew | apply blk_alloc)); exact BK411.out⟩, ⟨by repeat (first | exact HB.out | apply below_alloc | apply pw_below_drewN | apply below_drew1 | refine below_set ?_ GE411.out)⟩⟩
       ·
        rw [if_neg c16] at H
        exact absurd H (by simp)
      ·
       rw [if_neg c15] at H
       have c15b0 : decide (x12_1 < 12) = false := decide_eq_false c15
       clear c15
       have H' := Aside0.mk H
       clear H
       go_wp2
       go_meet
       case rel => exact ⟨_, (x412000_1), (x412001_1), (x412002_1), (x412003_1), (u412000), H', ⟨by have := HK1.out; first | omega | exact Nat.le_refl _⟩, ⟨by (with_reducible repeat (first | apply Kd.V_alloc | apply Kd.V_drewN | apply Kd.V_drew)); exact HO_412000.out⟩, ⟨by (with_reducible repeat (first | apply blk_drewN | apply blk_drew | apply blk_alloc)); exact BK411.out⟩, ⟨by repeat (first | exact HB.out | apply below_alloc | apply pw_below_drewN | apply below_drew1 | refine below_set ?_ GE411.out)⟩⟩
     ·
      rw [if_neg c14] at H
      have c14b0 : decide (x12_1 < (l0.length : Int)) = false := decide_eq_false c14
      clear c14
      (first | rw [c14b0] | (simp only [i64_w, i32_w]; rw [c14b0]) | skip)
      have H' := Aside0.mk H
      clear H
      go_wp2
      go_meet
      case rel => exact ⟨_, (x412000_1), (x412001_1), (x412002_1), (x412003_1), (u412000), H', ⟨by have := HK1.out; first | omega | exact Nat.le_refl _⟩, ⟨by (with_reducible repeat (first | apply Kd.V_alloc | apply Kd.V_drewN | apply Kd.V_drew)); exact HO_412000.out⟩, ⟨by (with_reducible repeat (first | apply blk_drewN | apply blk_drew | apply blk_alloc)); exact BK411.out⟩, ⟨by repeat (first | exact HB.out | apply below_alloc | apply pw_below_drewN | apply below_drew1 | refine below_set ?_ GE411.out)⟩⟩
  case rest =>
   clear HC8
   try clear c1
   try clear p2
   try clear p4
   try clear q4
   try clear hx4
   try clear c6
   try clear p6
   try clear c9
   try clear c11
   try clear c13
   try clear c14
   try clear c14b0
   try clear c15
   try clear c15b0
   try clear c16
   try clear c16b0
   try clear hcz13_0
   try clear hcz13_1
   try clear hcz13_2
   try clear hcz13_3
   try clear hfz13_0
   try clear hfz13_1
   try clear hfz13_2
   try clear hfz13_3
   try clear hx412_0
   try clear hx412_1
   try clear hx412_2
   try clear hx412_3
   try clear hx412_4
   try clear hx412_5
   try clear p2
   try clear p412
   try clear p6
   try clear q412
   obtain ⟨kq, x412000_7, x412001_7, x412002_7, x412003_7, u412000, HA, HJ7, HO_412000, BK411, HB⟩ := hcut
   cases kq with
   | zero => exact absurd HA.out (by simp [clinkerlaw05_NandOff.j1])
   | succ kj7 =>
    have H := HA.out
    clear HA
    simp only [clinkerlaw05_NandOff.j1] at H
    replace H := Option.bind_eq_some_iff.mp H
    obtain ⟨⟨t421, t424, t425, t426⟩, A260, H⟩ := H
    replace H : ((clinkerref05_Own.f t421 t424 t425 t426).bind fun bt427 => ((nand_Program.f bt427.1 bt427.2.1 true bt427.2.2.2 (Int.tmod (wrap64 (a2)) 4) (Int.tmod (wrap64 (a3)) 6) false (⟨#[120]⟩ : ByteArray) (⟨#[]⟩ : ByteArray) 0 (⟨#[]⟩ : ByteArray) (⟨#[]⟩ : ByteArray) 0).bind fun bt434 => ((nand_Erase.f bt427.1 bt427.2.1 true bt427.2.2.2 (Int.tmod (wrap64 (a2)) 4) 0 (⟨#[]⟩ : ByteArray) (⟨#[]⟩ : ByteArray) 0).bind fun bt442 => ((nand_Read.f bt427.1 bt427.2.1 true bt427.2.2.2 (Int.tmod (wrap64 (a2)) 4) (Int.tmod (wrap64 (a3)) 6)).bind fun bt450 => (if true = true then (if bt434.2.2.2.2 = 52 then (if bt442.2.2.2.2 = 52 then (if bt450.2.2.2 = 52 then (if bt450.1 = true then (some false) else ((clinkerref05_Same.f bt434.1 bt434.2.1 bt434.2.2.1 bt434.2.2.2.1 bt427.1 bt427.2.1 true bt427.2.2.2).bind fun t455 => (if t455 = true then ((clinkerref05_Same.f bt442.1 bt442.2.1 bt442.2.2.1 bt442.2.2.2.1 bt427.1 bt427.2.1 true bt427.2.2.2).bind fun t456 => (if t456 = true then ((nand_On.f bt427.1 bt427.2.1 true bt427.2.2.2).bind fun bt457 => ((clinkerref05_Same.f bt457.1 bt457.2.1 bt457.2.2.1 bt457.2.2.2 t421 t424 t425 t426).bind fun t463 => (some t463))) else (some false))) else (some false)))) else (some false)) else (some false)) else (some false)) else (some false)))))) = some r := H
    have A26 := Aside0.mk A260
    clear A260
    replace H := Option.bind_eq_some_iff.mp H
    obtain ⟨⟨t427, t430, t431, t432⟩, A270, H⟩ := H
    replace H : ((nand_Program.f t427 t430 true t432 (Int.tmod (wrap64 (a2)) 4) (Int.tmod (wrap64 (a3)) 6) false (⟨#[120]⟩ : ByteArray) (⟨#[]⟩ : ByteArray) 0 (⟨#[]⟩ : ByteArray) (⟨#[]⟩ : ByteArray) 0).bind fun bt434 => ((nand_Erase.f t427 t430 true t432 (Int.tmod (wrap64 (a2)) 4) 0 (⟨#[]⟩ : ByteArray) (⟨#[]⟩ : ByteArray) 0).bind fun bt442 => ((nand_Read.f t427 t430 true t432 (Int.tmod (wrap64 (a2)) 4) (Int.tmod (wrap64 (a3)) 6)).bind fun bt450 => (if true = true then (if bt434.2.2.2.2 = 52 then (if bt442.2.2.2.2 = 52 then (if bt450.2.2.2 = 52 then (if bt450.1 = true then (some false) else ((clinkerref05_Same.f bt434.1 bt434.2.1 bt434.2.2.1 bt434.2.2.2.1 t427 t430 true t432).bind fun t455 => (if t455 = true then ((clinkerref05_Same.f bt442.1 bt442.2.1 bt442.2.2.1 bt442.2.2.2.1 t427 t430 true t432).bind fun t456 => (if t456 = true then ((nand_On.f t427 t430 true t432).bind fun bt457 => ((clinkerref05_Same.f bt457.1 bt457.2.1 bt457.2.2.1 bt457.2.2.2 t421 t424 t425 t426).bind fun t463 => (some t463))) else (some false))) else (some false)))) else (some false)) else (some false)) else (some false)) else (some false))))) = some r := H
    have A27 := Aside0.mk A270
    clear A270
    replace H := Option.bind_eq_some_iff.mp H
    obtain ⟨⟨t434, t437, t438, t439, t440⟩, A280, H⟩ := H
    replace H : ((nand_Erase.f t427 t430 true t432 (Int.tmod (wrap64 (a2)) 4) 0 (⟨#[]⟩ : ByteArray) (⟨#[]⟩ : ByteArray) 0).bind fun bt442 => ((nand_Read.f t427 t430 true t432 (Int.tmod (wrap64 (a2)) 4) (Int.tmod (wrap64 (a3)) 6)).bind fun bt450 => (if true = true then (if t440 = 52 then (if bt442.2.2.2.2 = 52 then (if bt450.2.2.2 = 52 then (if bt450.1 = true then (some false) else ((clinkerref05_Same.f t434 t437 t438 t439 t427 t430 true t432).bind fun t455 => (if t455 = true then ((clinkerref05_Same.f bt442.1 bt442.2.1 bt442.2.2.1 bt442.2.2.2.1 t427 t430 true t432).bind fun t456 => (if t456 = true then ((nand_On.f t427 t430 true t432).bind fun bt457 => ((clinkerref05_Same.f bt457.1 bt457.2.1 bt457.2.2.1 bt457.2.2.2 t421 t424 t425 t426).bind fun t463 => (some t463))) else (some false))) else (some false)))) else (some false)) else (some false)) else (some false)) else (some false)))) = some r := H
    have A28 := Aside0.mk A280
    clear A280
    replace H := Option.bind_eq_some_iff.mp H
    obtain ⟨⟨t442, t445, t446, t447, t448⟩, A290, H⟩ := H
    replace H : ((nand_Read.f t427 t430 true t432 (Int.tmod (wrap64 (a2)) 4) (Int.tmod (wrap64 (a3)) 6)).bind fun bt450 => (if true = true then (if t440 = 52 then (if t448 = 52 then (if bt450.2.2.2 = 52 then (if bt450.1 = true then (some false) else ((clinkerref05_Same.f t434 t437 t438 t439 t427 t430 true t432).bind fun t455 => (if t455 = true then ((clinkerref05_Same.f t442 t445 t446 t447 t427 t430 true t432).bind fun t456 => (if t456 = true then ((nand_On.f t427 t430 true t432).bind fun bt457 => ((clinkerref05_Same.f bt457.1 bt457.2.1 bt457.2.2.1 bt457.2.2.2 t421 t424 t425 t426).bind fun t463 => (some t463))) else (some false))) else (some false)))) else (some false)) else (some false)) else (some false)) else (some false))) = some r := H
    have A29 := Aside0.mk A290
    clear A290
    replace H := Option.bind_eq_some_iff.mp H
    obtain ⟨⟨t450, t451, t452, t453⟩, A300, H⟩ := H
    replace H : (if true = true then (if t440 = 52 then (if t448 = 52 then (if t453 = 52 then (if t450 = true then (some false) else ((clinkerref05_Same.f t434 t437 t438 t439 t427 t430 true t432).bind fun t455 => (if t455 = true then ((clinkerref05_Same.f t442 t445 t446 t447 t427 t430 true t432).bind fun t456 => (if t456 = true then ((nand_On.f t427 t430 true t432).bind fun bt457 => ((clinkerref05_Same.f bt457.1 bt457.2.1 bt457.2.2.1 bt457.2.2.2 t421 t424 t425 t426).bind fun t463 => (some t463))) else (some false))) else (some false)))) else (some false)) else (some false)) else (some false)) else (some false)) = some r := H
    have A30 := Aside0.mk A300
    clear A300
    replace H : (if t440 = 52 then (if t448 = 52 then (if t453 = 52 then (if t450 = true then (some false) else ((clinkerref05_Same.f t434 t437 t438 t439 t427 t430 true t432).bind fun t455 => (if t455 = true then ((clinkerref05_Same.f t442 t445 t446 t447 t427 t430 true t432).bind fun t456 => (if t456 = true then ((nand_On.f t427 t430 true t432).bind fun bt457 => ((clinkerref05_Same.f bt457.1 bt457.2.1 bt457.2.2.1 bt457.2.2.2 t421 t424 t425 t426).bind fun t463 => (some t463))) else (some false))) else (some false)))) else (some false)) else (some false)) else (some false)) = some r := by first | exact H | (rw [if_pos rfl] at H; exact H) | simpa using H
    by_cases c31 : t440 = 52
    ·
     rw [if_pos c31] at H
     have c31b0 : (t440 == 52) = true := beq_iff_eq.mpr c31
     have c31b1 : (t440 != 52) = false := bne_eq_false_iff_eq.mpr c31
     clear c31
     by_cases c32 : t448 = 52
     ·
      rw [if_pos c32] at H
      have c32b0 : (t448 == 52) = true := beq_iff_eq.mpr c32
      have c32b1 : (t448 != 52) = false := bne_eq_false_iff_eq.mpr c32
      clear c32
      by_cases c33 : t453 = 52
      ·
       rw [if_pos c33] at H
       have c33b0 : (t453 == 52) = true := beq_iff_eq.mpr c33
       have c33b1 : (t453 != 52) = false := bne_eq_false_iff_eq.mpr c33
       clear c33
       by_cases c34 : t450 = true
       ·
        subst c34
        have H1 : (some false) = some r := by rw [if_pos rfl] at H; exact H
        clear H
        have H := H1
        clear H1
        exact absurd (H.trans (congrArg some hrt.out)) (by simp)
       ·
        replace c34 := Bool.eq_false_iff.mpr c34
        subst c34
        have H1 : ((clinkerref05_Same.f t434 t437 t438 t439 t427 t430 true t432).bind fun t455 => (if t455 = true then ((clinkerref05_Same.f t442 t445 t446 t447 t427 t430 true t432).bind fun t456 => (if t456 = true then ((nand_On.f t427 t430 true t432).bind fun bt457 => ((clinkerref05_Same.f bt457.1 bt457.2.1 bt457.2.2.1 bt457.2.2.2 t421 t424 t425 t426).bind fun t463 => (some t463))) else (some false))) else (some false))) = some r := by rw [if_neg (show ¬ (false = true) by decide)] at H; exact H
        clear H
        have H := H1
        clear H1
        replace H := Option.bind_eq_some_iff.mp H
        obtain ⟨t455, A740, H⟩ := H
        replace H : (if t455 = true then ((clinkerref05_Same.f t442 t445 t446 t447 t427 t430 true t432).bind fun t456 => (if t456 = true then ((nand_On.f t427 t430 true t432).bind fun bt457 => ((clinkerref05_Same.f bt457.1 bt457.2.1 bt457.2.2.1 bt457.2.2.2 t421 t424 t425 t426).bind fun t463 => (some t463))) else (some false))) else (some false)) = some r := H
        have A74 := Aside0.mk A740
        clear A740
        by_cases c75 : t455 = true
        ·
         subst c75
         have H1 : ((clinkerref05_Same.f t442 t445 t446 t447 t427 t430 true t432).bind fun t456 => (if t456 = true then ((nand_On.f t427 t430 true t432).bind fun bt457 => ((clinkerref05_Same.f bt457.1 bt457.2.1 bt457.2.2.1 bt457.2.2.2 t421 t424 t425 t426).bind fun t463 => (some t463))) else (some false))) = some r := by rw [if_pos rfl] at H; exact H
         clear H
         have H := H1
         clear H1
         replace H := Option.bind_eq_some_iff.mp H
         obtain ⟨t456, A760, H⟩ := H
         replace H : (if t456 = true then ((nand_On.f t427 t430 true t432).bind fun bt457 => ((clinkerref05_Same.f bt457.1 bt457.2.1 bt457.2.2.1 bt457.2.2.2 t421 t424 t425 t426).bind fun t463 => (some t463))) else (some false)) = some r := H
         have A76 := Aside0.mk A760
         clear A760
         by_cases c77 : t456 = true
         ·
          subst c77
          have H1 : ((nand_On.f t427 t430 true t432).bind fun bt457 => ((clinkerref05_Same.f bt457.1 bt457.2.1 bt457.2.2.1 bt457.2.2.2 t421 t424 t425 t426).bind fun t463 => (some t463))) = some r := by rw [if_pos rfl] at H; exact H
          clear H
          have H := H1
          clear H1
          replace H := Option.bind_eq_some_iff.mp H
          obtain ⟨⟨t457, t460, t461, t462⟩, A780, H⟩ := H
          replace H : ((clinkerref05_Same.f t457 t460 t461 t462 t421 t424 t425 t426).bind fun t463 => (some t463)) = some r := H
          have A78 := Aside0.mk A780
          clear A780
          replace H := Option.bind_eq_some_iff.mp H
          obtain ⟨t463, A790, H⟩ := H
          replace H : (some t463) = some r := H
          have A79 := Aside0.mk A790
          clear A790
          obtain rfl := Option.some.inj H
          have hcz80_0 : wc.cell? ⟨gb411, 0, none⟩ = some (u412000) := (blk_cell BK411.out 0).trans rfl
          have hcz80_1 : wc.cell? ⟨gb411, 1, none⟩ = some (.bool x412001_7) := (blk_cell BK411.out 1).trans rfl
          have hcz80_2 : wc.cell? ⟨gb411, 2, none⟩ = some (.bool x412002_7) := (blk_cell BK411.out 2).trans rfl
          have hcz80_3 : wc.cell? ⟨gb411, 3, none⟩ = some (.int .i64 x412003_7) := (blk_cell BK411.out 3).trans rfl
          have hfz80_0 := blk_frozen BK411.out 0
          have hfz80_1 := blk_frozen BK411.out 1
          have hfz80_2 := blk_frozen BK411.out 2
          have hfz80_3 := blk_frozen BK411.out 3
          obtain ⟨Ao81, co81, eo81⟩ := Kd.V_slice HO_412000.out
          subst eo81
          try go_wp2_with (first | ((with_reducible refine gate_callee (f := 16) rfl ?_); refine goesL_ (some 52) rfl rfl Try.func16 (by kernel_rfl) rfl #[.agg #[.slice Ao81 x412000_7.length co81, .bool x412001_7, .bool x412002_7, .int .i64 x412003_7]] rfl (by (try simp only [List.map_toArray, List.map_cons, List.map_nil]); first | done | rfl | (simp only [List.length_drop, List.length_take]; rfl)) ?_; (with_reducible refine (clinkerref05_On.calls _ _ x412000_7 x412001_7 x412002_7 x412003_7 t421 t424 t425 t426 _ ?side1 ?side2 A26.out).mono ?_); (case side1 => repeat (first | exact (Kd.V_reads' HO_412000.out).2.2 | (with_reducible refine Kd.C_alloc ?_ _) | (with_reducible refine Kd.C_drewN ?_ _) | (with_reducible refine Kd.C_drew ?_))); (case side2 => exact (Kd.V_reads' HO_412000.out).2.1); rintro e w82 ⟨v422, rfl, ho0, hb⟩; refine ⟨_, rfl, ?_⟩; have n0_ := Aside0.mk (Kd.V_below (by (with_reducible repeat (first | apply Kd.V_alloc | apply Kd.V_drewN | apply Kd.V_drew)); exact HO_412000.out) hb); have n1_ := Aside0.mk (Kd.V_lower (Kd.V_mono (ok' := fun k_ => k_ ≠ gb411) ho0 (fun k_ hk_ => (Kd.freshB (g := gb411) (o := .cells #[.slice Ao81 x412000_7.length co81, .bool x412001_7, .bool x412002_7, .int .i64 x412003_7] 27 (0, 0)) (by (with_reducible repeat (first | apply blk_drewN | apply blk_drew | apply blk_alloc)); exact BK411.out) k_ hk_))) (below_size (by repeat (first | exact HB.out | apply below_alloc | apply pw_below_drewN | apply below_drew1 | refine below_set ?_ GE411.out)))); have n2_ := Aside0.mk (blk_below (g := gb411) (o := .cells #[.slice Ao81 x412000_7.length co81, .bool x412001_7, .bool x412002_7, .int .i64 x412003_7] 27 (0, 0)) (by (with_reducible repeat (first | apply blk_drewN | apply blk_drew | apply blk_alloc)); exact BK411.out) hb); have n3_ := Aside0.mk (below_step (by repeat (first | exact HB.out | apply below_alloc | apply pw_below_drewN | apply below_drew1 | refine below_set ?_ GE411.out)) hb); clear HO_412000; clear BK411; clear HB; have HO_412000 := n0_; have HO423 := n1_; have BK411 := n2_; have HB := n3_; clear n0_ n1_ n2_ n3_; (try clear hb); (try clear hb2); (try clear hk); (try clear hi); (try clear ho0); obtain ⟨Ao83, co83, eo83⟩ := Kd.V_slice HO423.out; subst eo83; have hcz84_0 : w82.cell? ⟨gb411, 0, none⟩ = some (.slice Ao81 x412000_7.length co81) := (blk_cell BK411.out 0).trans rfl; have hcz84_1 : w82.cell? ⟨gb411, 1, none⟩ = some (.bool x412001_7) := (blk_cell BK411.out 1).trans rfl; have hcz84_2 : w82.cell? ⟨gb411, 2, none⟩ = some (.bool x412002_7) := (blk_cell BK411.out 2).trans rfl; have hcz84_3 : w82.cell? ⟨gb411, 3, none⟩ = some (.int .i64 x412003_7) := (blk_cell BK411.out 3).trans rfl; have hfz84_0 := blk_frozen BK411.out 0; have hfz84_1 := blk_frozen BK411.out 1; have hfz84_2 := blk_frozen BK411.out 2; have hfz84_3 := blk_frozen BK411.out 3) | ((with_reducible refine gate_callee (f := 23) rfl ?_); refine goesL_ (some 54) rfl rfl Try.func23 (by kernel_rfl) rfl #[.agg #[.slice Ao83 t421.length co83, .bool t424, .bool t425, .int .i64 t426]] rfl (by (try simp only [List.map_toArray, List.map_cons, List.map_nil]); first | done | rfl | (simp only [List.length_drop, List.length_take]; rfl)) ?_; (with_reducible refine (clinkerref05_Own.calls _ _ t421 t424 t425 t426 t427 t430 t431 t432 _ ?side1 ?side2 A27.out).mono ?_); (case side1 => refine (Kd.V_reads' (e := 44) (base := w.heap.size) (ok := fun k_ => k_ ≠ gb411) (n := t421.length) (c := co83) ?_).2.2; exact (by (with_reducible repeat (first | apply Kd.V_alloc | apply Kd.V_drewN | apply Kd.V_drew)); exact (Kd.V_mono (Kd.V_far (p := ⟨gb411, 3, none⟩) (Kd.V_far (p := ⟨gb411, 2, none⟩) (Kd.V_far (p := ⟨gb411, 1, none⟩) (Kd.V_far (p := ⟨gb411, 0, none⟩) (Kd.V_mono HO423.out (fun k_ hk => (⟨hk, hk⟩ : _ ∧ k_ ≠ gb411))) (fun _ hk => hk.2) _) (fun _ hk => hk.2) (.bool t424)) (fun _ hk => hk.2) (.bool t425)) (fun _ hk => hk.2) _) (fun _ h_ => h_.1)))); (case side2 => exact (Kd.V_reads' HO423.out).2.1); rintro e w85 ⟨v428, rfl, ho0, hb⟩; refine ⟨_, rfl, ?_⟩; have n0_ := Aside0.mk (Kd.V_below (by (with_reducible repeat (first | apply Kd.V_alloc | apply Kd.V_drewN | apply Kd.V_drew)); exact (Kd.V_mono (Kd.V_far (p := ⟨gb411, 3, none⟩) (Kd.V_far (p := ⟨gb411, 2, none⟩) (Kd.V_far (p := ⟨gb411, 1, none⟩) (Kd.V_far (p := ⟨gb411, 0, none⟩) (Kd.V_mono HO_412000.out (fun k_ hk => (⟨hk, hk⟩ : _ ∧ k_ ≠ gb411))) (fun _ hk => hk.2) _) (fun _ hk => hk.2) (.bool t424)) (fun _ hk => hk.2) (.bool t425)) (fun _ hk => hk.2) _) (fun _ h_ => h_.1))) hb); have n1_ := Aside0.mk (Kd.V_below (by (with_reducible repeat (first | apply Kd.V_alloc | apply Kd.V_drewN | apply Kd.V_drew)); exact (Kd.V_mono (Kd.V_far (p := ⟨gb411, 3, none⟩) (Kd.V_far (p := ⟨gb411, 2, none⟩) (Kd.V_far (p := ⟨gb411, 1, none⟩) (Kd.V_far (p := ⟨gb411, 0, none⟩) (Kd.V_mono HO423.out (fun k_ hk => (⟨hk, hk⟩ : _ ∧ k_ ≠ gb411))) (fun _ hk => hk.2) _) (fun _ hk => hk.2) (.bool t424)) (fun _ hk => hk.2) (.bool t425)) (fun _ hk => hk.2) _) (fun _ h_ => h_.1))) hb); have n2_ := Aside0.mk (Kd.V_lower (Kd.V_mono (ok' := fun k_ => k_ ≠ gb411) ho0 (fun k_ hk_ => (Kd.freshB (g := gb411) (o := .cells #[.slice Ao83 t421.length co83, .bool t424, .bool t425, .int .i64 t426] 27 (0, 0)) (by (with_reducible repeat (first | apply blk_drewN | apply blk_drew | apply blk_alloc)); refine blk_put (cs := #[.slice Ao83 t421.length co83, .bool t424, .bool t425, .int .i64 x412003_7]) ?_ 3 _ rfl; (with_reducible repeat (first | apply blk_drewN | apply blk_drew | apply blk_alloc)); refine blk_put (cs := #[.slice Ao83 t421.length co83, .bool t424, .bool x412002_7, .int .i64 x412003_7]) ?_ 2 _ rfl; (with_reducible repeat (first | apply blk_drewN | apply blk_drew | apply blk_alloc)); refine blk_put (cs := #[.slice Ao83 t421.length co83, .bool x412001_7, .bool x412002_7, .int .i64 x412003_7]) ?_ 1 _ rfl; (with_reducible repeat (first | apply blk_drewN | apply blk_drew | apply blk_alloc)); refine blk_put (cs := #[.slice Ao81 x412000_7.length co81, .bool x412001_7, .bool x412002_7, .int .i64 x412003_7]) ?_ 0 _ rfl; (with_reducible repeat (first | apply blk_drewN | apply blk_drew | apply blk_alloc)); exact BK411.out) k_ hk_))) (below_size (by repeat (first | exact HB.out | apply below_alloc | apply pw_below_drewN | apply below_drew1 | refine below_set ?_ GE411.out)))); have n3_ := Aside0.mk (blk_below (g := gb411) (o := .cells #[.slice Ao83 t421.length co83, .bool t424, .bool t425, .int .i64 t426] 27 (0, 0)) (by (with_reducible repeat (first | apply blk_drewN | apply blk_drew | apply blk_alloc)); refine blk_put (cs := #[.slice Ao83 t421.length co83, .bool t424, .bool t425, .int .i64 x412003_7]) ?_ 3 _ rfl; (with_reducible repeat (first | apply blk_drewN | apply blk_drew | apply blk_alloc)); refine blk_put (cs := #[.slice Ao83 t421.length co83, .bool t424, .bool x412002_7, .int .i64 x412003_7]) ?_ 2 _ rfl; (with_reducible repeat (first | apply blk_drewN | apply blk_drew | apply blk_alloc)); refine blk_put (cs := #[.slice Ao83 t421.length co83, .bool x412001_7, .bool x412002_7, .int .i64 x412003_7]) ?_ 1 _ rfl; (with_reducible repeat (first | apply blk_drewN | apply blk_drew | apply blk_alloc)); refine blk_put (cs := #[.slice Ao81 x412000_7.length co81, .bool x412001_7, .bool x412002_7, .int .i64 x412003_7]) ?_ 0 _ rfl; (with_reducible repeat (first | apply blk_drewN | apply blk_drew | apply blk_alloc)); exact BK411.out) hb); have n4_ := Aside0.mk (below_step (by repeat (first | exact HB.out | apply below_alloc | apply pw_below_drewN | apply below_drew1 | refine below_set ?_ GE411.out)) hb); clear HO_412000; clear HO423; clear BK411; clear HB; have HO_412000 := n0_; have HO423 := n1_; have HO429 := n2_; have BK411 := n3_; have HB := n4_; clear n0_ n1_ n2_ n3_ n4_; (try clear hb); (try clear hb2); (try clear hk); (try clear hi); (try clear ho0)) | ((with_reducible refine gate_dst (N := 13) rfl ?_); refine box_event ?hg (N := 13) ?hd (cs := #[.slice none 0 0, .bool false, .bool false, .int .i64 0]) (t := 27) ?hr ?_; (case hd => rfl); (case hg => rfl); (case hr => first | (go_simp; done) | (go_simp; rfl)); intro gb433 hg w86 hbox hb; have n0_ := Aside0.mk (Kd.V_below (Kd.V_elderB (by (with_reducible repeat (first | apply Kd.V_alloc | apply Kd.V_drewN | apply Kd.V_drew)); exact HO_412000.out) gb433 (Nat.le_of_eq hg.symm)) hb); have n1_ := Aside0.mk (Kd.V_below (Kd.V_elderB (by (with_reducible repeat (first | apply Kd.V_alloc | apply Kd.V_drewN | apply Kd.V_drew)); exact HO423.out) gb433 (Nat.le_of_eq hg.symm)) hb); have n2_ := Aside0.mk (Kd.V_below (Kd.V_elderB (by (with_reducible repeat (first | apply Kd.V_alloc | apply Kd.V_drewN | apply Kd.V_drew)); exact HO429.out) gb433 (Nat.le_of_eq hg.symm)) hb); have n3_ := Aside0.mk (blk_below (g := gb411) (o := .cells #[.slice Ao83 t421.length co83, .bool t424, .bool t425, .int .i64 t426] 27 (0, 0)) (by (with_reducible repeat (first | apply blk_drewN | apply blk_drew | apply blk_alloc)); exact BK411.out) hb); have n4_ := Aside0.mk (below_step (by repeat (first | exact HB.out | apply below_alloc | apply pw_below_drewN | apply below_drew1 | refine below_set ?_ GE411.out)) hb); have n5_ := Aside0.mk (hbox); have n6_ := Aside0.mk ((by rw [hg]; exact (below_size (by repeat (first | exact HB.out | apply below_alloc | apply pw_below_drewN | apply below_drew1 | refine below_set ?_ GE411.out))) : w.heap.size ≤ gb433)); have n7_ := Aside0.mk ((by rw [hg]; exact (below_size (by repeat (first | exact HB.out | apply below_alloc | apply pw_below_drewN | apply below_drew1 | refine below_set ?_ GE411.out))) : w.heap.size ≤ gb433)); have n8_ := Aside0.mk ((by rw [hg]; exact Nat.ne_of_lt (blk_lt (g := gb411) (o := .cells #[.slice Ao83 t421.length co83, .bool t424, .bool t425, .int .i64 t426] 27 (0, 0)) (by (with_reducible repeat (first | apply blk_drewN | apply blk_drew | apply blk_alloc)); exact BK411.out)) : gb411 ≠ gb433)); have n9_ := Aside0.mk ((by rw [hg]; exact Nat.ne_of_gt (blk_lt (g := gb411) (o := .cells #[.slice Ao83 t421.length co83, .bool t424, .bool t425, .int .i64 t426] 27 (0, 0)) (by (with_reducible repeat (first | apply blk_drewN | apply blk_drew | apply blk_alloc)); exact BK411.out)) : gb433 ≠ gb411)); clear HO_412000; clear HO423; clear HO429; clear BK411; clear HB; have HO_412000 := n0_; have HO423 := n1_; have HO429 := n2_; have BK411 := n3_; have HB := n4_; have BK433 := n5_; have GW433 := n6_; have GE433 := n7_; have NB411_433 := n8_; have NB433_411 := n9_; clear n0_ n1_ n2_ n3_ n4_ n5_ n6_ n7_ n8_ n9_; clear hb hbox hg; obtain ⟨Ao87, co87, eo87⟩ := Kd.V_slice HO429.out; subst eo87; have hnb88 := NB433_411.out; have hnc88 := NB411_433.out; have hcz89_0 : w86.cell? ⟨gb433, 0, none⟩ = some (.slice none 0 0) := (blk_cell BK433.out 0).trans rfl; have hcz89_1 : w86.cell? ⟨gb433, 1, none⟩ = some (.bool false) := (blk_cell BK433.out 1).trans rfl; have hcz89_2 : w86.cell? ⟨gb433, 2, none⟩ = some (.bool false) := (blk_cell BK433.out 2).trans rfl; have hcz89_3 : w86.cell? ⟨gb433, 3, none⟩ = some (.int .i64 0) := (blk_cell BK433.out 3).trans rfl; have hfz89_0 := blk_frozen BK433.out 0; have hfz89_1 := blk_frozen BK433.out 1; have hfz89_2 := blk_frozen BK433.out 2; have hfz89_3 := blk_frozen BK433.out 3) | ((with_reducible refine gate_store (t := 27) (p := 13) rfl ?_); refine store_event (t := 27) (p := 13) (v := ?vo_w90) (w1 := ((((w86.setCell ⟨gb433, 0, none⟩ (.slice Ao87 t427.length co87)).setCell ⟨gb433, 1, none⟩ (.bool t430)).setCell ⟨gb433, 2, none⟩ (.bool t431)).setCell ⟨gb433, 3, none⟩ (.int .i64 t432))) ?hg ?ho ?hn ?hr ?_; (case ho => rfl); (case hg => rfl); (case hn => rfl); (case hr => first | (go_simp; done) | (go_simp; rfl)); intro w90 hw; have n0_ : Aside0 (Kd.V k44 44 w90 w.heap.size (fun k_ => k_ ≠ gb411 ∧ k_ ≠ gb433) (.slice Ao81 x412000_7.length co81) x412000_7) := ⟨(by rw [hw]; exact (by (with_reducible repeat (first | apply Kd.V_alloc | apply Kd.V_drewN | apply Kd.V_drew)); exact Kd.V_mono (Kd.V_far (p := ⟨gb433, 3, none⟩) (Kd.V_far (p := ⟨gb433, 2, none⟩) (Kd.V_far (p := ⟨gb433, 1, none⟩) (Kd.V_far (p := ⟨gb433, 0, none⟩) (Kd.V_mono HO_412000.out (fun k_ hk => (⟨hk, hk.2⟩ : _ ∧ k_ ≠ gb433))) (fun _ hk => hk.2) _) (fun _ hk => hk.2) (.bool t430)) (fun _ hk => hk.2) (.bool t431)) (fun _ hk => hk.2) _) (fun _ hk => ⟨hk.1.1, hk.1.2⟩)))⟩; have n1_ : Aside0 (Kd.V k44 44 w90 w.heap.size (fun k_ => k_ ≠ gb411 ∧ k_ ≠ gb433) (.slice Ao83 t421.length co83) t421) := ⟨(by rw [hw]; exact (by (with_reducible repeat (first | apply Kd.V_alloc | apply Kd.V_drewN | apply Kd.V_drew)); exact Kd.V_mono (Kd.V_far (p := ⟨gb433, 3, none⟩) (Kd.V_far (p := ⟨gb433, 2, none⟩) (Kd.V_far (p := ⟨gb433, 1, none⟩) (Kd.V_far (p := ⟨gb433, 0, none⟩) (Kd.V_mono HO423.out (fun k_ hk => (⟨hk, hk.2⟩ : _ ∧ k_ ≠ gb433))) (fun _ hk => hk.2) _) (fun _ hk => hk.2) (.bool t430)) (fun _ hk => hk.2) (.bool t431)) (fun _ hk => hk.2) _) (fun _ hk => ⟨hk.1.1, hk.1.2⟩)))⟩; have n2_ : Aside0 (Kd.V k44 44 w90 w.heap.size (fun k_ => k_ ≠ gb411 ∧ k_ ≠ gb433) (.slice Ao87 t427.length co87) t427) := ⟨(by rw [hw]; exact (by (with_reducible repeat (first | apply Kd.V_alloc | apply Kd.V_drewN | apply Kd.V_drew)); exact Kd.V_mono (Kd.V_far (p := ⟨gb433, 3, none⟩) (Kd.V_far (p := ⟨gb433, 2, none⟩) (Kd.V_far (p := ⟨gb433, 1, none⟩) (Kd.V_far (p := ⟨gb433, 0, none⟩) (Kd.V_mono HO429.out (fun k_ hk => (⟨hk, hk.2⟩ : _ ∧ k_ ≠ gb433))) (fun _ hk => hk.2) _) (fun _ hk => hk.2) (.bool t430)) (fun _ hk => hk.2) (.bool t431)) (fun _ hk => hk.2) _) (fun _ hk => ⟨hk.1.1, hk.1.2⟩)))⟩; have n3_ : Aside0 (w90.heap[gb411]? = some (.cells #[.slice Ao83 t421.length co83, .bool t424, .bool t425, .int .i64 t426] 27 (0, 0))) := ⟨(by rw [hw]; exact (by (with_reducible repeat (first | apply blk_drewN | apply blk_drew | apply blk_alloc)); refine blk_far ?_ NB411_433.out _; (with_reducible repeat (first | apply blk_drewN | apply blk_drew | apply blk_alloc)); refine blk_far ?_ NB411_433.out _; (with_reducible repeat (first | apply blk_drewN | apply blk_drew | apply blk_alloc)); refine blk_far ?_ NB411_433.out _; (with_reducible repeat (first | apply blk_drewN | apply blk_drew | apply blk_alloc)); refine blk_far ?_ NB411_433.out _; (with_reducible repeat (first | apply blk_drewN | apply blk_drew | apply blk_alloc)); exact BK411.out))⟩; have n4_ : Aside0 (w90.heap[gb433]? = some (.cells #[.slice Ao87 t427.length co87, .bool t430, .bool t431, .int .i64 t432] 27 (0, 0))) := ⟨(by rw [hw]; exact (by (with_reducible repeat (first | apply blk_drewN | apply blk_drew | apply blk_alloc)); refine blk_put (cs := #[.slice Ao87 t427.length co87, .bool t430, .bool t431, .int .i64 0]) ?_ 3 _ rfl; (with_reducible repeat (first | apply blk_drewN | apply blk_drew | apply blk_alloc)); refine blk_put (cs := #[.slice Ao87 t427.length co87, .bool t430, .bool false, .int .i64 0]) ?_ 2 _ rfl; (with_reducible repeat (first | apply blk_drewN | apply blk_drew | apply blk_alloc)); refine blk_put (cs := #[.slice Ao87 t427.length co87, .bool false, .bool false, .int .i64 0]) ?_ 1 _ rfl; (with_reducible repeat (first | apply blk_drewN | apply blk_drew | apply blk_alloc)); refine blk_put (cs := #[.slice none 0 0, .bool false, .bool false, .int .i64 0]) ?_ 0 _ rfl; (with_reducible repeat (first | apply blk_drewN | apply blk_drew | apply blk_alloc)); exact BK433.out))⟩; have n5_ : Aside0 (Below w.heap.size w w90) := ⟨(by rw [hw]; exact (by repeat (first | (with_reducible first | exact HB.out | apply below_alloc | apply pw_below_drewN | apply below_drew1 | refine below_set ?_ GE411.out | refine below_set ?_ GE433.out) | exact HB.out)))⟩; clear hw; clear HO_412000; clear HO423; clear HO429; clear BK411; clear BK433; clear HB; have HO_412000 := n0_; have HO423 := n1_; have HO429 := n2_; have BK411 := n3_; have BK433 := n4_; have HB := n5_; clear n0_ n1_ n2_ n3_ n4_ n5_; have hcz91_0 : w90.cell? ⟨gb433, 0, none⟩ = some (.slice Ao87 t427.length co87) := (blk_cell BK433.out 0).trans rfl; have hcz91_1 : w90.cell? ⟨gb433, 1, none⟩ = some (.bool t430) := (blk_cell BK433.out 1).trans rfl; have hcz91_2 : w90.cell? ⟨gb433, 2, none⟩ = some (.bool t431) := (blk_cell BK433.out 2).trans rfl; have hcz91_3 : w90.cell? ⟨gb433, 3, none⟩ = some (.int .i64 t432) := (blk_cell BK433.out 3).trans rfl; have hfz91_0 := blk_frozen BK433.out 0; have hfz91_1 := blk_frozen BK433.out 1; have hfz91_2 := blk_frozen BK433.out 2; have hfz91_3 := blk_frozen BK433.out 3) | ((with_reducible refine gate_store (t := 4) (p := 55) rfl ?_); refine store_event (t := 4) (p := 55) (v := ?vo_w92) (w1 := (w90.setCell ⟨gb433, 2, none⟩ (.bool true))) ?hg ?ho ?hn ?hr ?_; (case ho => rfl); (case hg => rfl); (case hn => rfl); (case hr => first | (go_simp; done) | (go_simp; rfl)); intro w92 hw; have n0_ : Aside0 (Kd.V k44 44 w92 w.heap.size (fun k_ => k_ ≠ gb411 ∧ k_ ≠ gb433) (.slice Ao81 x412000_7.length co81) x412000_7) := ⟨(by rw [hw]; exact (by (with_reducible repeat (first | apply Kd.V_alloc | apply Kd.V_drewN | apply Kd.V_drew)); exact Kd.V_mono (Kd.V_far (p := ⟨gb433, 2, none⟩) (Kd.V_mono HO_412000.out (fun k_ hk => (⟨hk, hk.2⟩ : _ ∧ k_ ≠ gb433))) (fun _ hk => hk.2) (.bool true)) (fun _ hk => ⟨hk.1.1, hk.1.2⟩)))⟩; have n1_ : Aside0 (Kd.V k44 44 w92 w.heap.size (fun k_ => k_ ≠ gb411 ∧ k_ ≠ gb433) (.slice Ao83 t421.length co83) t421) := ⟨(by rw [hw]; exact (by (with_reducible repeat (first | apply Kd.V_alloc | apply Kd.V_drewN | apply Kd.V_drew)); exact Kd.V_mono (Kd.V_far (p := ⟨gb433, 2, none⟩) (Kd.V_mono HO423.out (fun k_ hk => (⟨hk, hk.2⟩ : _ ∧ k_ ≠ gb433))) (fun _ hk => hk.2) (.bool true)) (fun _ hk => ⟨hk.1.1, hk.1.2⟩)))⟩; have n2_ : Aside0 (Kd.V k44 44 w92 w.heap.size (fun k_ => k_ ≠ gb411 ∧ k_ ≠ gb433) (.slice Ao87 t427.length co87) t427) := ⟨(by rw [hw]; exact (by (with_reducible repeat (first | apply Kd.V_alloc | apply Kd.V_drewN | apply Kd.V_drew)); exact Kd.V_mono (Kd.V_far (p := ⟨gb433, 2, none⟩) (Kd.V_mono HO429.out (fun k_ hk => (⟨hk, hk.2⟩ : _ ∧ k_ ≠ gb433))) (fun _ hk => hk.2) (.bool true)) (fun _ hk => ⟨hk.1.1, hk.1.2⟩)))⟩; have n3_ : Aside0 (w92.heap[gb411]? = some (.cells #[.slice Ao83 t421.length co83, .bool t424, .bool t425, .int .i64 t426] 27 (0, 0))) := ⟨(by rw [hw]; exact (by (with_reducible repeat (first | apply blk_drewN | apply blk_drew | apply blk_alloc)); refine blk_far ?_ NB411_433.out _; (with_reducible repeat (first | apply blk_drewN | apply blk_drew | apply blk_alloc)); exact BK411.out))⟩; have n4_ : Aside0 (w92.heap[gb433]? = some (.cells #[.slice Ao87 t427.length co87, .bool t430, .bool true, .int .i64 t432] 27 (0, 0))) := ⟨(by rw [hw]; exact (by (with_reducible repeat (first | apply blk_drewN | apply blk_drew | apply blk_alloc)); refine blk_put (cs := #[.slice Ao87 t427.length co87, .bool t430, .bool t431, .int .i64 t432]) ?_ 2 _ rfl; (with_reducible repeat (first | apply blk_drewN | apply blk_drew | apply blk_alloc)); exact BK433.out))⟩; have n5_ : Aside0 (Below w.heap.size w w92) := ⟨(by rw [hw]; exact (by repeat (first | (with_reducible first | exact HB.out | apply below_alloc | apply pw_below_drewN | apply below_drew1 | refine below_set ?_ GE411.out | refine below_set ?_ GE433.out) | exact HB.out)))⟩; clear hw; clear HO_412000; clear HO423; clear HO429; clear BK411; clear BK433; clear HB; have HO_412000 := n0_; have HO423 := n1_; have HO429 := n2_; have BK411 := n3_; have BK433 := n4_; have HB := n5_; clear n0_ n1_ n2_ n3_ n4_ n5_; have hcz93_0 : w92.cell? ⟨gb433, 0, none⟩ = some (.slice Ao87 t427.length co87) := (blk_cell BK433.out 0).trans rfl; have hcz93_1 : w92.cell? ⟨gb433, 1, none⟩ = some (.bool t430) := (blk_cell BK433.out 1).trans rfl; have hcz93_2 : w92.cell? ⟨gb433, 2, none⟩ = some (.bool true) := (blk_cell BK433.out 2).trans rfl; have hcz93_3 : w92.cell? ⟨gb433, 3, none⟩ = some (.int .i64 t432) := (blk_cell BK433.out 3).trans rfl; have hfz93_0 := blk_frozen BK433.out 0; have hfz93_1 := blk_frozen BK433.out 1; have hfz93_2 := blk_frozen BK433.out 2; have hfz93_3 := blk_frozen BK433.out 3) | ((with_reducible refine gate_callee (f := 19) rfl ?_); refine goesL_ (some 66) rfl rfl Try.func19 (by kernel_rfl) rfl #[.agg #[.slice Ao87 t427.length co87, .bool t430, .bool true, .int .i64 t432], .int .i64 (Int.tmod (wrap64 (a2)) 4), .int .i64 (Int.tmod (wrap64 (a3)) 6), .agg #[.bool false, .string (⟨#[120]⟩ : ByteArray), .string (⟨#[]⟩ : ByteArray)], .agg #[.int .i64 0, .string (⟨#[]⟩ : ByteArray), .string (⟨#[]⟩ : ByteArray), .int .i64 0]] rfl (by (try simp only [List.map_toArray, List.map_cons, List.map_nil]); first | done | rfl | (simp only [List.length_drop, List.length_take]; rfl)) ?_; (with_reducible refine (nand_Program.calls (fun k_ => (k_ ≠ gb411 ∧ k_ ≠ gb433)) _ _ t427 t430 true t432 (Int.tmod (wrap64 (a2)) 4) (Int.tmod (wrap64 (a3)) 6) false (⟨#[120]⟩ : ByteArray) (⟨#[]⟩ : ByteArray) 0 (⟨#[]⟩ : ByteArray) (⟨#[]⟩ : ByteArray) 0 t434 t437 t438 t439 t440 _ ?side1 A28.out).mono ?_); (case side1 => exact HO429.out); rintro e w94 ⟨v435, rfl, ho0, hb⟩; refine ⟨_, rfl, ?_⟩; have n0_ := Aside0.mk (Kd.V_below (by (with_reducible repeat (first | apply Kd.V_alloc | apply Kd.V_drewN | apply Kd.V_drew)); exact HO_412000.out) hb); have n1_ := Aside0.mk (Kd.V_below (by (with_reducible repeat (first | apply Kd.V_alloc | apply Kd.V_drewN | apply Kd.V_drew)); exact HO423.out) hb); have n2_ := Aside0.mk (Kd.V_below (by (with_reducible repeat (first | apply Kd.V_alloc | apply Kd.V_drewN | apply Kd.V_drew)); exact HO429.out) hb); have n3_ := Aside0.mk (Kd.V_lower (Kd.V_mono (ok' := fun k_ => k_ ≠ gb411 ∧ k_ ≠ gb433) ho0 (fun k_ hk_ => ⟨Or.elim hk_ (fun hs_ => hs_.1) (fun hn_ => (Kd.freshB (g := gb411) (o := .cells #[.slice Ao83 t421.length co83, .bool t424, .bool t425, .int .i64 t426] 27 (0, 0)) (by (with_reducible repeat (first | apply blk_drewN | apply blk_drew | apply blk_alloc)); exact BK411.out) k_ hn_)), Or.elim hk_ (fun hs_ => hs_.2) (fun hn_ => (Kd.freshB (g := gb433) (o := .cells #[.slice Ao87 t427.length co87, .bool t430, .bool true, .int .i64 t432] 27 (0, 0)) (by (with_reducible repeat (first | apply blk_drewN | apply blk_drew | apply blk_alloc)); exact BK433.out) k_ hn_))⟩)) (below_size (by repeat (first | (with_reducible first | exact HB.out | apply below_alloc | apply pw_below_drewN | apply below_drew1 | refine below_set ?_ GE411.out | refine below_set ?_ GE433.out) | exact HB.out)))); have n4_ := Aside0.mk (blk_below (g := gb411) (o := .cells #[.slice Ao83 t421.length co83, .bool t424, .bool t425, .int .i64 t426] 27 (0, 0)) (by (with_reducible repeat (first | apply blk_drewN | apply blk_drew | apply blk_alloc)); exact BK411.out) hb); have n5_ := Aside0.mk (blk_below (g := gb433) (o := .cells #[.slice Ao87 t427.length co87, .bool t430, .bool true, .int .i64 t432] 27 (0, 0)) (by (with_reducible repeat (first | apply blk_drewN | apply blk_drew | apply blk_alloc)); exact BK433.out) hb); have n6_ := Aside0.mk (below_step (by repeat (first | (with_reducible first | exact HB.out | apply below_alloc | apply pw_below_drewN | apply below_drew1 | refine below_set ?_ GE411.out | refine below_set ?_ GE433.out) | exact HB.out)) hb); clear HO_412000; clear HO423; clear HO429; clear BK411; clear BK433; clear HB; have HO_412000 := n0_; have HO423 := n1_; have HO429 := n2_; have HO436 := n3_; have BK411 := n4_; have BK433 := n5_; have HB := n6_; clear n0_ n1_ n2_ n3_ n4_ n5_ n6_; (try clear hb); (try clear hb2); (try clear hk); (try clear hi); (try clear ho0)) | ((with_reducible refine gate_dst (N := 14) rfl ?_); refine box_event ?hg (N := 14) ?hd (cs := #[.slice none 0 0, .bool false, .bool false, .int .i64 0]) (t := 27) ?hr ?_; (case hd => rfl); (case hg => rfl); (case hr => first | (go_simp; done) | (go_simp; rfl)); intro gb441 hg w95 hbox hb; have n0_ := Aside0.mk (Kd.V_below (Kd.V_elderB (by (with_reducible repeat (first | apply Kd.V_alloc | apply Kd.V_drewN | apply Kd.V_drew)); exact HO_412000.out) gb441 (Nat.le_of_eq hg.symm)) hb); have n1_ := Aside0.mk (Kd.V_below (Kd.V_elderB (by (with_reducible repeat (first | apply Kd.V_alloc | apply Kd.V_drewN | apply Kd.V_drew)); exact HO423.out) gb441 (Nat.le_of_eq hg.symm)) hb); have n2_ := Aside0.mk (Kd.V_below (Kd.V_elderB (by (with_reducible repeat (first | apply Kd.V_alloc | apply Kd.V_drewN | apply Kd.V_drew)); exact HO429.out) gb441 (Nat.le_of_eq hg.symm)) hb); have n3_ := Aside0.mk (Kd.V_below (Kd.V_elderB (by (with_reducible repeat (first | apply Kd.V_alloc | apply Kd.V_drewN | apply Kd.V_drew)); exact HO436.out) gb441 (Nat.le_of_eq hg.symm)) hb); have n4_ := Aside0.mk (blk_below (g := gb411) (o := .cells #[.slice Ao83 t421.length co83, .bool t424, .bool t425, .int .i64 t426] 27 (0, 0)) (by (with_reducible repeat (first | apply blk_drewN | apply blk_drew | apply blk_alloc)); exact BK411.out) hb); have n5_ := Aside0.mk (blk_below (g := gb433) (o := .cells #[.slice Ao87 t427.length co87, .bool t430, .bool true, .int .i64 t432] 27 (0, 0)) (by (with_reducible repeat (first | apply blk_drewN | apply blk_drew | apply blk_alloc)); exact BK433.out) hb); have n6_ := Aside0.mk (below_step (by repeat (first | (with_reducible first | exact HB.out | apply below_alloc | apply pw_below_drewN | apply below_drew1 | refine below_set ?_ GE411.out | refine below_set ?_ GE433.out) | exact HB.out)) hb); have n7_ := Aside0.mk (hbox); have n8_ := Aside0.mk ((by rw [hg]; exact (below_size (by repeat (first | (with_reducible first | exact HB.out | apply below_alloc | apply pw_below_drewN | apply below_drew1 | refine below_set ?_ GE411.out | refine below_set ?_ GE433.out) | exact HB.out))) : w.heap.size ≤ gb441)); have n9_ := Aside0.mk ((by rw [hg]; exact (below_size (by repeat (first | (with_reducible first | exact HB.out | apply below_alloc | apply pw_below_drewN | apply below_drew1 | refine below_set ?_ GE411.out | refine below_set ?_ GE433.out) | exact HB.out))) : w.heap.size ≤ gb441)); have n10_ := Aside0.mk ((by rw [hg]; exact Nat.ne_of_lt (blk_lt (g := gb411) (o := .cells #[.slice Ao83 t421.length co83, .bool t424, .bool t425, .int .i64 t426] 27 (0, 0)) (by (with_reducible repeat (first | apply blk_drewN | apply blk_drew | apply blk_alloc)); exact BK411.out)) : gb411 ≠ gb441)); have n11_ := Aside0.mk ((by rw [hg]; exact Nat.ne_of_gt (blk_lt (g := gb411) (o := .cells #[.slice Ao83 t421.length co83, .bool t424, .bool t425, .int .i64 t426] 27 (0, 0)) (by (with_reducible repeat (first | apply blk_drewN | apply blk_drew | apply blk_alloc)); exact BK411.out)) : gb441 ≠ gb411)); have n12_ := Aside0.mk ((by rw [hg]; exact Nat.ne_of_lt (blk_lt (g := gb433) (o := .cells #[.slice Ao87 t427.length co87, .bool t430, .bool true, .int .i64 t432] 27 (0, 0)) (by (with_reducible repeat (first | apply blk_drewN | apply blk_drew | apply blk_alloc)); exact BK433.out)) : gb433 ≠ gb441)); have n13_ := Aside0.mk ((by rw [hg]; exact Nat.ne_of_gt (blk_lt (g := gb433) (o := .cells #[.slice Ao87 t427.length co87, .bool t430, .bool true, .int .i64 t432] 27 (0, 0)) (by (with_reducible repeat (first | apply blk_drewN | apply blk_drew | apply blk_alloc)); exact BK433.out)) : gb441 ≠ gb433)); clear HO_412000; clear HO423; clear HO429; clear HO436; clear BK411; clear BK433; clear HB; have HO_412000 := n0_; have HO423 := n1_; have HO429 := n2_; have HO436 := n3_; have BK411 := n4_; have BK433 := n5_; have HB := n6_; have BK441 := n7_; have GW441 := n8_; have GE441 := n9_; have NB411_441 := n10_; have NB441_411 := n11_; have NB433_441 := n12_; have NB441_433 := n13_; clear n0_ n1_ n2_ n3_ n4_ n5_ n6_ n7_ n8_ n9_ n10_ n11_ n12_ n13_; clear hb hbox hg; obtain ⟨Ao96, co96, eo96⟩ := Kd.V_slice HO436.out; subst eo96; have hnb97 := NB441_411.out; have hnc97 := NB411_441.out; have hnb98 := NB441_433.out; have hnc98 := NB433_441.out; have hcz99_0 : w95.cell? ⟨gb441, 0, none⟩ = some (.slice none 0 0) := (blk_cell BK441.out 0).trans rfl; have hcz99_1 : w95.cell? ⟨gb441, 1, none⟩ = some (.bool false) := (blk_cell BK441.out 1).trans rfl; have hcz99_2 : w95.cell? ⟨gb441, 2, none⟩ = some (.bool false) := (blk_cell BK441.out 2).trans rfl; have hcz99_3 : w95.cell? ⟨gb441, 3, none⟩ = some (.int .i64 0) := (blk_cell BK441.out 3).trans rfl; have hfz99_0 := blk_frozen BK441.out 0; have hfz99_1 := blk_frozen BK441.out 1; have hfz99_2 := blk_frozen BK441.out 2; have hfz99_3 := blk_frozen BK441.out 3) | ((with_reducible refine gate_store (t := 27) (p := 14) rfl ?_); refine store_event (t := 27) (p := 14) (v := ?vo_w100) (w1 := ((((w95.setCell ⟨gb441, 0, none⟩ (.slice Ao96 t434.length co96)).setCell ⟨gb441, 1, none⟩ (.bool t437)).setCell ⟨gb441, 2, none⟩ (.bool t438)).setCell ⟨gb441, 3, none⟩ (.int .i64 t439))) ?hg ?ho ?hn ?hr ?_; (case ho => rfl); (case hg => rfl); (case hn => rfl); (case hr => first | (go_simp; done) | (go_simp; rfl)); intro w100 hw; have n0_ : Aside0 (Kd.V k44 44 w100 w.heap.size (fun k_ => k_ ≠ gb411 ∧ k_ ≠ gb433 ∧ k_ ≠ gb441) (.slice Ao81 x412000_7.length co81) x412000_7) := ⟨(by rw [hw]; exact (by (with_reducible repeat (first | apply Kd.V_alloc | apply Kd.V_drewN | apply Kd.V_drew)); exact Kd.V_mono (Kd.V_far (p := ⟨gb441, 3, none⟩) (Kd.V_far (p := ⟨gb441, 2, none⟩) (Kd.V_far (p := ⟨gb441, 1, none⟩) (Kd.V_far (p := ⟨gb441, 0, none⟩) (Kd.V_mono HO_412000.out (fun k_ hk => (⟨hk, hk.2⟩ : _ ∧ k_ ≠ gb441))) (fun _ hk => hk.2) _) (fun _ hk => hk.2) (.bool t437)) (fun _ hk => hk.2) (.bool t438)) (fun _ hk => hk.2) _) (fun _ hk => ⟨hk.1.1.1, ⟨hk.1.1.2, hk.1.2⟩⟩)))⟩; have n1_ : Aside0 (Kd.V k44 44 w100 w.heap.size (fun k_ => k_ ≠ gb411 ∧ k_ ≠ gb433 ∧ k_ ≠ gb441) (.slice Ao83 t421.length co83) t421) := ⟨(by rw [hw]; exact (by (with_reducible repeat (first | apply Kd.V_alloc | apply Kd.V_drewN | apply Kd.V_drew)); exact Kd.V_mono (Kd.V_far (p := ⟨gb441, 3, none⟩) (Kd.V_far (p := ⟨gb441, 2, none⟩) (Kd.V_far (p := ⟨gb441, 1, none⟩) (Kd.V_far (p := ⟨gb441, 0, none⟩) (Kd.V_mono HO423.out (fun k_ hk => (⟨hk, hk.2⟩ : _ ∧ k_ ≠ gb441))) (fun _ hk => hk.2) _) (fun _ hk => hk.2) (.bool t437)) (fun _ hk => hk.2) (.bool t438)) (fun _ hk => hk.2) _) (fun _ hk => ⟨hk.1.1.1, ⟨hk.1.1.2, hk.1.2⟩⟩)))⟩; have n2_ : Aside0 (Kd.V k44 44 w100 w.heap.size (fun k_ => k_ ≠ gb411 ∧ k_ ≠ gb433 ∧ k_ ≠ gb441) (.slice Ao87 t427.length co87) t427) := ⟨(by rw [hw]; exact (by (with_reducible repeat (first | apply Kd.V_alloc | apply Kd.V_drewN | apply Kd.V_drew)); exact Kd.V_mono (Kd.V_far (p := ⟨gb441, 3, none⟩) (Kd.V_far (p := ⟨gb441, 2, none⟩) (Kd.V_far (p := ⟨gb441, 1, none⟩) (Kd.V_far (p := ⟨gb441, 0, none⟩) (Kd.V_mono HO429.out (fun k_ hk => (⟨hk, hk.2⟩ : _ ∧ k_ ≠ gb441))) (fun _ hk => hk.2) _) (fun _ hk => hk.2) (.bool t437)) (fun _ hk => hk.2) (.bool t438)) (fun _ hk => hk.2) _) (fun _ hk => ⟨hk.1.1.1, ⟨hk.1.1.2, hk.1.2⟩⟩)))⟩; have n3_ : Aside0 (Kd.V k44 44 w100 w.heap.size (fun k_ => k_ ≠ gb411 ∧ k_ ≠ gb433 ∧ k_ ≠ gb441) (.slice Ao96 t434.length co96) t434) := ⟨(by rw [hw]; exact (by (with_reducible repeat (first | apply Kd.V_alloc | apply Kd.V_drewN | apply Kd.V_drew)); exact Kd.V_mono (Kd.V_far (p := ⟨gb441, 3, none⟩) (Kd.V_far (p := ⟨gb441, 2, none⟩) (Kd.V_far (p := ⟨gb441, 1, none⟩) (Kd.V_far (p := ⟨gb441, 0, none⟩) (Kd.V_mono HO436.out (fun k_ hk => (⟨hk, hk.2⟩ : _ ∧ k_ ≠ gb441))) (fun _ hk => hk.2) _) (fun _ hk => hk.2) (.bool t437)) (fun _ hk => hk.2) (.bool t438)) (fun _ hk => hk.2) _) (fun _ hk => ⟨hk.1.1.1, ⟨hk.1.1.2, hk.1.2⟩⟩)))⟩; have n4_ : Aside0 (w100.heap[gb411]? = some (.cells #[.slice Ao83 t421.length co83, .bool t424, .bool t425, .int .i64 t426] 27 (0, 0))) := ⟨(by rw [hw]; exact (by (with_reducible repeat (first | apply blk_drewN | apply blk_drew | apply blk_alloc)); refine blk_far ?_ NB411_441.out _; (with_reducible repeat (first | apply blk_drewN | apply blk_drew | apply blk_alloc)); refine blk_far ?_ NB411_441.out _; (with_reducible repeat (first | apply blk_drewN | apply blk_drew | apply blk_alloc)); refine blk_far ?_ NB411_441.out _; (with_reducible repeat (first | apply blk_drewN | apply blk_drew | apply blk_alloc)); refine blk_far ?_ NB411_441.out _; (with_reducible repeat (first | apply blk_drewN | apply blk_drew | apply blk_alloc)); exact BK411.out))⟩; have n5_ : Aside0 (w100.heap[gb433]? = some (.cells #[.slice Ao87 t427.length co87, .bool t430, .bool true, .int .i64 t432] 27 (0, 0))) := ⟨(by rw [hw]; exact (by (with_reducible repeat (first | apply blk_drewN | apply blk_drew | apply blk_alloc)); refine blk_far ?_ NB433_441.out _; (with_reducible repeat (first | apply blk_drewN | apply blk_drew | apply blk_alloc)); refine blk_far ?_ NB433_441.out _; (with_reducible repeat (first | apply blk_drewN | apply blk_drew | apply blk_alloc)); refine blk_far ?_ NB433_441.out _; (with_reducible repeat (first | apply blk_drewN | apply blk_drew | apply blk_alloc)); refine blk_far ?_ NB433_441.out _; (with_reducible repeat (first | apply blk_drewN | apply blk_drew | apply blk_alloc)); exact BK433.out))⟩; have n6_ : Aside0 (w100.heap[gb441]? = some (.cells #[.slice Ao96 t434.length co96, .bool t437, .bool t438, .int .i64 t439] 27 (0, 0))) := ⟨(by rw [hw]; exact (by (with_reducible repeat (first | apply blk_drewN | apply blk_drew | apply blk_alloc)); refine blk_put (cs := #[.slice Ao96 t434.length co96, .bool t437, .bool t438, .int .i64 0]) ?_ 3 _ rfl; (with_reducible repeat (first | apply blk_drewN | apply blk_drew | apply blk_alloc)); refine blk_put (cs := #[.slice Ao96 t434.length co96, .bool t437, .bool false, .int .i64 0]) ?_ 2 _ rfl; (with_reducible repeat (first | apply blk_drewN | apply blk_drew | apply blk_alloc)); refine blk_put (cs := #[.slice Ao96 t434.length co96, .bool false, .bool false, .int .i64 0]) ?_ 1 _ rfl; (with_reducible repeat (first | apply blk_drewN | apply blk_drew | apply blk_alloc)); refine blk_put (cs := #[.slice none 0 0, .bool false, .bool false, .int .i64 0]) ?_ 0 _ rfl; (with_reducible repeat (first | apply blk_drewN | apply blk_drew | apply blk_alloc)); exact BK441.out))⟩; have n7_ : Aside0 (Below w.heap.size w w100) := ⟨(by rw [hw]; exact (by repeat (first | (with_reducible first | exact HB.out | apply below_alloc | apply pw_below_drewN | apply below_drew1 | refine below_set ?_ GE411.out | refine below_set ?_ GE433.out | refine below_set ?_ GE441.out) | exact HB.out)))⟩; clear hw; clear HO_412000; clear HO423; clear HO429; clear HO436; clear BK411; clear BK433; clear BK441; clear HB; have HO_412000 := n0_; have HO423 := n1_; have HO429 := n2_; have HO436 := n3_; have BK411 := n4_; have BK433 := n5_; have BK441 := n6_; have HB := n7_; clear n0_ n1_ n2_ n3_ n4_ n5_ n6_ n7_; have hcz101_0 : w100.cell? ⟨gb433, 0, none⟩ = some (.slice Ao87 t427.length co87) := (blk_cell BK433.out 0).trans rfl; have hcz101_1 : w100.cell? ⟨gb433, 1, none⟩ = some (.bool t430) := (blk_cell BK433.out 1).trans rfl; have hcz101_2 : w100.cell? ⟨gb433, 2, none⟩ = some (.bool true) := (blk_cell BK433.out 2).trans rfl; have hcz101_3 : w100.cell? ⟨gb433, 3, none⟩ = some (.int .i64 t432) := (blk_cell BK433.out 3).trans rfl; have hfz101_0 := blk_frozen BK433.out 0; have hfz101_1 := blk_frozen BK433.out 1; have hfz101_2 := blk_frozen BK433.out 2; have hfz101_3 := blk_frozen BK433.out 3) | ((with_reducible refine gate_callee (f := 17) rfl ?_); refine goesL_ (some 75) rfl rfl Try.func17 (by kernel_rfl) rfl #[.agg #[.slice Ao87 t427.length co87, .bool t430, .bool true, .int .i64 t432], .int .i64 (Int.tmod (wrap64 (a2)) 4), .agg #[.int .i64 0, .string (⟨#[]⟩ : ByteArray), .string (⟨#[]⟩ : ByteArray), .int .i64 0]] rfl (by (try simp only [List.map_toArray, List.map_cons, List.map_nil]); first | done | rfl | (simp only [List.length_drop, List.length_take]; rfl)) ?_; (with_reducible refine (nand_Erase.calls (fun k_ => (k_ ≠ gb411 ∧ (k_ ≠ gb433 ∧ k_ ≠ gb441))) _ _ t427 t430 true t432 (Int.tmod (wrap64 (a2)) 4) 0 (⟨#[]⟩ : ByteArray) (⟨#[]⟩ : ByteArray) 0 t442 t445 t446 t447 t448 _ ?side1 A29.out).mono ?_); (case side1 => exact HO429.out); rintro e w102 ⟨v443, rfl, ho0, hb⟩; refine ⟨_, rfl, ?_⟩; have n0_ := Aside0.mk (Kd.V_below (by (with_reducible repeat (first | apply Kd.V_alloc | apply Kd.V_drewN | apply Kd.V_drew)); exact HO_412000.out) hb); have n1_ := Aside0.mk (Kd.V_below (by (with_reducible repeat (first | apply Kd.V_alloc | apply Kd.V_drewN | apply Kd.V_drew)); exact HO423.out) hb); have n2_ := Aside0.mk (Kd.V_below (by (with_reducible repeat (first | apply Kd.V_alloc | apply Kd.V_drewN | apply Kd.V_drew)); exact HO429.out) hb); have n3_ := Aside0.mk (Kd.V_below (by (with_reducible repeat (first | apply Kd.V_alloc | apply Kd.V_drewN | apply Kd.V_drew)); exact HO436.out) hb); have n4_ := Aside0.mk (Kd.V_lower (Kd.V_mono (ok' := fun k_ => k_ ≠ gb411 ∧ k_ ≠ gb433 ∧ k_ ≠ gb441) ho0 (fun k_ hk_ => ⟨Or.elim hk_ (fun hs_ => hs_.1) (fun hn_ => (Kd.freshB (g := gb411) (o := .cells #[.slice Ao83 t421.length co83, .bool t424, .bool t425, .int .i64 t426] 27 (0, 0)) (by (with_reducible repeat (first | apply blk_drewN | apply blk_drew | apply blk_alloc)); exact BK411.out) k_ hn_)), Or.elim hk_ (fun hs_ => hs_.2.1) (fun hn_ => (Kd.freshB (g := gb433) (o := .cells #[.slice Ao87 t427.length co87, .bool t430, .bool true, .int .i64 t432] 27 (0, 0)) (by (with_reducible repeat (first | apply blk_drewN | apply blk_drew | apply blk_alloc)); exact BK433.out) k_ hn_)), Or.elim hk_ (fun hs_ => hs_.2.2) (fun hn_ => (Kd.freshB (g := gb441) (o := .cells #[.slice Ao96 t434.length co96, .bool t437, .bool t438, .int .i64 t439] 27 (0, 0)) (by (with_reducible repeat (first | apply blk_drewN | apply blk_drew | apply blk_alloc)); exact BK441.out) k_ hn_))⟩)) (below_size (by repeat (first | (with_reducible first | exact HB.out | apply below_alloc | apply pw_below_drewN | apply below_drew1 | refine below_set ?_ GE411.out | refine below_set ?_ GE433.out | refine below_set ?_ GE441.out) | exact HB.out)))); have n5_ := Aside0.mk (blk_below (g := gb411) (o := .cells #[.slice Ao83 t421.length co83, .bool t424, .bool t425, .int .i64 t426] 27 (0, 0)) (by (with_reducible repeat (first | apply blk_drewN | apply blk_drew | apply blk_alloc)); exact BK411.out) hb); have n6_ := Aside0.mk (blk_below (g := gb433) (o := .cells #[.slice Ao87 t427.length co87, .bool t430, .bool true, .int .i64 t432] 27 (0, 0)) (by (with_reducible repeat (first | apply blk_drewN | apply blk_drew | apply blk_alloc)); exact BK433.out) hb); have n7_ := Aside0.mk (blk_below (g := gb441) (o := .cells #[.slice Ao96 t434.length co96, .bool t437, .bool t438, .int .i64 t439] 27 (0, 0)) (by (with_reducible repeat (first | apply blk_drewN | apply blk_drew | apply blk_alloc)); exact BK441.out) hb); have n8_ := Aside0.mk (below_step (by repeat (first | (with_reducible first | exact HB.out | apply below_alloc | apply pw_below_drewN | apply below_drew1 | refine below_set ?_ GE411.out | refine below_set ?_ GE433.out | refine below_set ?_ GE441.out) | exact HB.out)) hb); clear HO_412000; clear HO423; clear HO429; clear HO436; clear BK411; clear BK433; clear BK441; clear HB; have HO_412000 := n0_; have HO423 := n1_; have HO429 := n2_; have HO436 := n3_; have HO444 := n4_; have BK411 := n5_; have BK433 := n6_; have BK441 := n7_; have HB := n8_; clear n0_ n1_ n2_ n3_ n4_ n5_ n6_ n7_ n8_; (try clear hb); (try clear hb2); (try clear hk); (try clear hi); (try clear ho0)) | ((with_reducible refine gate_dst (N := 16) rfl ?_); refine box_event ?hg (N := 16) ?hd (cs := #[.slice none 0 0, .bool false, .bool false, .int .i64 0]) (t := 27) ?hr ?_; (case hd => rfl); (case hg => rfl); (case hr => first | (go_simp; done) | (go_simp; rfl)); intro gb449 hg w103 hbox hb; have n0_ := Aside0.mk (Kd.V_below (Kd.V_elderB (by (with_reducible repeat (first | apply Kd.V_alloc | apply Kd.V_drewN | apply Kd.V_drew)); exact HO_412000.out) gb449 (Nat.le_of_eq hg.symm)) hb); have n1_ := Aside0.mk (Kd.V_below (Kd.V_elderB (by (with_reducible repeat (first | apply Kd.V_alloc | apply Kd.V_drewN | apply Kd.V_drew)); exact HO423.out) gb449 (Nat.le_of_eq hg.symm)) hb); have n2_ := Aside0.mk (Kd.V_below (Kd.V_elderB (by (with_reducible repeat (first | apply Kd.V_alloc | apply Kd.V_drewN | apply Kd.V_drew)); exact HO429.out) gb449 (Nat.le_of_eq hg.symm)) hb); have n3_ := Aside0.mk (Kd.V_below (Kd.V_elderB (by (with_reducible repeat (first | apply Kd.V_alloc | apply Kd.V_drewN | apply Kd.V_drew)); exact HO436.out) gb449 (Nat.le_of_eq hg.symm)) hb); have n4_ := Aside0.mk (Kd.V_below (Kd.V_elderB (by (with_reducible repeat (first | apply Kd.V_alloc | apply Kd.V_drewN | apply Kd.V_drew)); exact HO444.out) gb449 (Nat.le_of_eq hg.symm)) hb); have n5_ := Aside0.mk (blk_below (g := gb411) (o := .cells #[.slice Ao83 t421.length co83, .bool t424, .bool t425, .int .i64 t426] 27 (0, 0)) (by (with_reducible repeat (first | apply blk_drewN | apply blk_drew | apply blk_alloc)); exact BK411.out) hb); have n6_ := Aside0.mk (blk_below (g := gb433) (o := .cells #[.slice Ao87 t427.length co87, .bool t430, .bool true, .int .i64 t432] 27 (0, 0)) (by (with_reducible repeat (first | apply blk_drewN | apply blk_drew | apply blk_alloc)); exact BK433.out) hb); have n7_ := Aside0.mk (blk_below (g := gb441) (o := .cells #[.slice Ao96 t434.length co96, .bool t437, .bool t438, .int .i64 t439] 27 (0, 0)) (by (with_reducible repeat (first | apply blk_drewN | apply blk_drew | apply blk_alloc)); exact BK441.out) hb); have n8_ := Aside0.mk (below_step (by repeat (first | (with_reducible first | exact HB.out | apply below_alloc | apply pw_below_drewN | apply below_drew1 | refine below_set ?_ GE411.out | refine below_set ?_ GE433.out | refine below_set ?_ GE441.out) | exact HB.out)) hb); have n9_ := Aside0.mk (hbox); have n10_ := Aside0.mk ((by rw [hg]; exact (below_size (by repeat (first | (with_reducible first | exact HB.out | apply below_alloc | apply pw_below_drewN | apply below_drew1 | refine below_set ?_ GE411.out | refine below_set ?_ GE433.out | refine below_set ?_ GE441.out) | exact HB.out))) : w.heap.size ≤ gb449)); have n11_ := Aside0.mk ((by rw [hg]; exact (below_size (by repeat (first | (with_reducible first | exact HB.out | apply below_alloc | apply pw_below_drewN | apply below_drew1 | refine below_set ?_ GE411.out | refine below_set ?_ GE433.out | refine below_set ?_ GE441.out) | exact HB.out))) : w.heap.size ≤ gb449)); have n12_ := Aside0.mk ((by rw [hg]; exact Nat.ne_of_lt (blk_lt (g := gb411) (o := .cells #[.slice Ao83 t421.length co83, .bool t424, .bool t425, .int .i64 t426] 27 (0, 0)) (by (with_reducible repeat (first | apply blk_drewN | apply blk_drew | apply blk_alloc)); exact BK411.out)) : gb411 ≠ gb449)); have n13_ := Aside0.mk ((by rw [hg]; exact Nat.ne_of_gt (blk_lt (g := gb411) (o := .cells #[.slice Ao83 t421.length co83, .bool t424, .bool t425, .int .i64 t426] 27 (0, 0)) (by (with_reducible repeat (first | apply blk_drewN | apply blk_drew | apply blk_alloc)); exact BK411.out)) : gb449 ≠ gb411)); have n14_ := Aside0.mk ((by rw [hg]; exact Nat.ne_of_lt (blk_lt (g := gb433) (o := .cells #[.slice Ao87 t427.length co87, .bool t430, .bool true, .int .i64 t432] 27 (0, 0)) (by (with_reducible repeat (first | apply blk_drewN | apply blk_drew | apply blk_alloc)); exact BK433.out)) : gb433 ≠ gb449)); have n15_ := Aside0.mk ((by rw [hg]; exact Nat.ne_of_gt (blk_lt (g := gb433) (o := .cells #[.slice Ao87 t427.length co87, .bool t430, .bool true, .int .i64 t432] 27 (0, 0)) (by (with_reducible repeat (first | apply blk_drewN | apply blk_drew | apply blk_alloc)); exact BK433.out)) : gb449 ≠ gb433)); have n16_ := Aside0.mk ((by rw [hg]; exact Nat.ne_of_lt (blk_lt (g := gb441) (o := .cells #[.slice Ao96 t434.length co96, .bool t437, .bool t438, .int .i64 t439] 27 (0, 0)) (by (with_reducible repeat (first | apply blk_drewN | apply blk_drew | apply blk_alloc)); exact BK441.out)) : gb441 ≠ gb449)); have n17_ := Aside0.mk ((by rw [hg]; exact Nat.ne_of_gt (blk_lt (g := gb441) (o := .cells #[.slice Ao96 t434.length co96, .bool t437, .bool t438, .int .i64 t439] 27 (0, 0)) (by (with_reducible repeat (first | apply blk_drewN | apply blk_drew | apply blk_alloc)); exact BK441.out)) : gb449 ≠ gb441)); clear HO_412000; clear HO423; clear HO429; clear HO436; clear HO444; clear BK411; clear BK433; clear BK441; clear HB; have HO_412000 := n0_; have HO423 := n1_; have HO429 := n2_; have HO436 := n3_; have HO444 := n4_; have BK411 := n5_; have BK433 := n6_; have BK441 := n7_; have HB := n8_; have BK449 := n9_; have GW449 := n10_; have GE449 := n11_; have NB411_449 := n12_; have NB449_411 := n13_; have NB433_449 := n14_; have NB449_433 := n15_; have NB441_449 := n16_; have NB449_441 := n17_; clear n0_ n1_ n2_ n3_ n4_ n5_ n6_ n7_ n8_ n9_ n10_ n11_ n12_ n13_ n14_ n15_ n16_ n17_; clear hb hbox hg; obtain ⟨Ao104, co104, eo104⟩ := Kd.V_slice HO444.out; subst eo104; have hnb105 := NB449_411.out; have hnc105 := NB411_449.out; have hnb106 := NB449_433.out; have hnc106 := NB433_449.out; have hnb107 := NB449_441.out; have hnc107 := NB441_449.out; have hcz108_0 : w103.cell? ⟨gb449, 0, none⟩ = some (.slice none 0 0) := (blk_cell BK449.out 0).trans rfl; have hcz108_1 : w103.cell? ⟨gb449, 1, none⟩ = some (.bool false) := (blk_cell BK449.out 1).trans rfl; have hcz108_2 : w103.cell? ⟨gb449, 2, none⟩ = some (.bool false) := (blk_cell BK449.out 2).trans rfl; have hcz108_3 : w103.cell? ⟨gb449, 3, none⟩ = some (.int .i64 0) := (blk_cell BK449.out 3).trans rfl; have hfz108_0 := blk_frozen BK449.out 0; have hfz108_1 := blk_frozen BK449.out 1; have hfz108_2 := blk_frozen BK449.out 2; have hfz108_3 := blk_frozen BK449.out 3; have hcz109_0 : w103.cell? ⟨gb433, 0, none⟩ = some (.slice Ao87 t427.length co87) := (blk_cell BK433.out 0).trans rfl; have hcz109_1 : w103.cell? ⟨gb433, 1, none⟩ = some (.bool t430) := (blk_cell BK433.out 1).trans rfl; have hcz109_2 : w103.cell? ⟨gb433, 2, none⟩ = some (.bool true) := (blk_cell BK433.out 2).trans rfl; have hcz109_3 : w103.cell? ⟨gb433, 3, none⟩ = some (.int .i64 t432) := (blk_cell BK433.out 3).trans rfl; have hfz109_0 := blk_frozen BK433.out 0; have hfz109_1 := blk_frozen BK433.out 1; have hfz109_2 := blk_frozen BK433.out 2; have hfz109_3 := blk_frozen BK433.out 3) | ((with_reducible refine gate_callee (f := 18) rfl ?_); refine goesL_ (some 86) rfl rfl Try.func18 (by kernel_rfl) rfl #[.agg #[.slice Ao87 t427.length co87, .bool t430, .bool true, .int .i64 t432], .int .i64 (Int.tmod (wrap64 (a2)) 4), .int .i64 (Int.tmod (wrap64 (a3)) 6)] rfl (by (try simp only [List.map_toArray, List.map_cons, List.map_nil]); first | done | rfl | (simp only [List.length_drop, List.length_take]; rfl)) ?_; (with_reducible refine (nand_Read.calls _ _ t427 t430 true t432 (Int.tmod (wrap64 (a2)) 4) (Int.tmod (wrap64 (a3)) 6) false t451 t452 t453 _ ?side1 ?side2 A30.out).mono ?_); (case side1 => refine (Kd.V_reads' (e := 44) (base := w.heap.size) (ok := fun k_ => ((k_ ≠ gb411 ∧ (k_ ≠ gb433 ∧ k_ ≠ gb441)) ∧ k_ ≠ gb449)) (n := t427.length) (c := co87) ?_).2.2; exact (by (with_reducible repeat (first | apply Kd.V_alloc | apply Kd.V_drewN | apply Kd.V_drew)); exact (Kd.V_mono (Kd.V_far (p := ⟨gb449, 3, none⟩) (Kd.V_far (p := ⟨gb449, 2, none⟩) (Kd.V_far (p := ⟨gb449, 1, none⟩) (Kd.V_far (p := ⟨gb449, 0, none⟩) (Kd.V_mono HO429.out (fun k_ hk => (⟨hk, hk.2⟩ : _ ∧ k_ ≠ gb449))) (fun _ hk => hk.2) _) (fun _ hk => hk.2) (.bool t445)) (fun _ hk => hk.2) (.bool t446)) (fun _ hk => hk.2) _) (fun _ h_ => h_.1)))); (case side2 => exact (Kd.V_reads' HO429.out).2.1); rintro e w110 ⟨rfl, hb⟩; refine ⟨_, rfl, ?_⟩; have n0_ := Aside0.mk (Kd.V_below (by (with_reducible repeat (first | apply Kd.V_alloc | apply Kd.V_drewN | apply Kd.V_drew)); exact (Kd.V_mono (Kd.V_far (p := ⟨gb449, 3, none⟩) (Kd.V_far (p := ⟨gb449, 2, none⟩) (Kd.V_far (p := ⟨gb449, 1, none⟩) (Kd.V_far (p := ⟨gb449, 0, none⟩) (Kd.V_mono HO_412000.out (fun k_ hk => (⟨hk, hk.2⟩ : _ ∧ k_ ≠ gb449))) (fun _ hk => hk.2) _) (fun _ hk => hk.2) (.bool t445)) (fun _ hk => hk.2) (.bool t446)) (fun _ hk => hk.2) _) (fun _ h_ => h_.1))) hb); have n1_ := Aside0.mk (Kd.V_below (by (with_reducible repeat (first | apply Kd.V_alloc | apply Kd.V_drewN | apply Kd.V_drew)); exact (Kd.V_mono (Kd.V_far (p := ⟨gb449, 3, none⟩) (Kd.V_far (p := ⟨gb449, 2, none⟩) (Kd.V_far (p := ⟨gb449, 1, none⟩) (Kd.V_far (p := ⟨gb449, 0, none⟩) (Kd.V_mono HO423.out (fun k_ hk => (⟨hk, hk.2⟩ : _ ∧ k_ ≠ gb449))) (fun _ hk => hk.2) _) (fun _ hk => hk.2) (.bool t445)) (fun _ hk => hk.2) (.bool t446)) (fun _ hk => hk.2) _) (fun _ h_ => h_.1))) hb); have n2_ := Aside0.mk (Kd.V_below (by (with_reducible repeat (first | apply Kd.V_alloc | apply Kd.V_drewN | apply Kd.V_drew)); exact (Kd.V_mono (Kd.V_far (p := ⟨gb449, 3, none⟩) (Kd.V_far (p := ⟨gb449, 2, none⟩) (Kd.V_far (p := ⟨gb449, 1, none⟩) (Kd.V_far (p := ⟨gb449, 0, none⟩) (Kd.V_mono HO429.out (fun k_ hk => (⟨hk, hk.2⟩ : _ ∧ k_ ≠ gb449))) (fun _ hk => hk.2) _) (fun _ hk => hk.2) (.bool t445)) (fun _ hk => hk.2) (.bool t446)) (fun _ hk => hk.2) _) (fun _ h_ => h_.1))) hb); have n3_ := Aside0.mk (Kd.V_below (by (with_reducible repeat (first | apply Kd.V_alloc | apply Kd.V_drewN | apply Kd.V_drew)); exact (Kd.V_mono (Kd.V_far (p := ⟨gb449, 3, none⟩) (Kd.V_far (p := ⟨gb449, 2, none⟩) (Kd.V_far (p := ⟨gb449, 1, none⟩) (Kd.V_far (p := ⟨gb449, 0, none⟩) (Kd.V_mono HO436.out (fun k_ hk => (⟨hk, hk.2⟩ : _ ∧ k_ ≠ gb449))) (fun _ hk => hk.2) _) (fun _ hk => hk.2) (.bool t445)) (fun _ hk => hk.2) (.bool t446)) (fun _ hk => hk.2) _) (fun _ h_ => h_.1))) hb); have n4_ := Aside0.mk (Kd.V_below (by (with_reducible repeat (first | apply Kd.V_alloc | apply Kd.V_drewN | apply Kd.V_drew)); exact (Kd.V_mono (Kd.V_far (p := ⟨gb449, 3, none⟩) (Kd.V_far (p := ⟨gb449, 2, none⟩) (Kd.V_far (p := ⟨gb449, 1, none⟩) (Kd.V_far (p := ⟨gb449, 0, none⟩) (Kd.V_mono HO444.out (fun k_ hk => (⟨hk, hk.2⟩ : _ ∧ k_ ≠ gb449))) (fun _ hk => hk.2) _) (fun _ hk => hk.2) (.bool t445)) (fun _ hk => hk.2) (.bool t446)) (fun _ hk => hk.2) _) (fun _ h_ => h_.1))) hb); have n5_ := Aside0.mk (blk_below (g := gb411) (o := .cells #[.slice Ao83 t421.length co83, .bool t424, .bool t425, .int .i64 t426] 27 (0, 0)) (by (with_reducible repeat (first | apply blk_drewN | apply blk_drew | apply blk_alloc)); refine blk_far ?_ NB411_449.out _; (with_reducible repeat (first | apply blk_drewN | apply blk_drew | apply blk_alloc)); refine blk_far ?_ NB411_449.out _; (with_reducible repeat (first | apply blk_drewN | apply blk_drew | apply blk_alloc)); refine blk_far ?_ NB411_449.out _; (with_reducible repeat (first | apply blk_drewN | apply blk_drew | apply blk_alloc)); refine blk_far ?_ NB411_449.out _; (with_reducible repeat (first | apply blk_drewN | apply blk_drew | apply blk_alloc)); exact BK411.out) hb); have n6_ := Aside0.mk (blk_below (g := gb433) (o := .cells #[.slice Ao87 t427.length co87, .bool t430, .bool true, .int .i64 t432] 27 (0, 0)) (by (with_reducible repeat (first | apply blk_drewN | apply blk_drew | apply blk_alloc)); refine blk_far ?_ NB433_449.out _; (with_reducible repeat (first | apply blk_drewN | apply blk_drew | apply blk_alloc)); refine blk_far ?_ NB433_449.out _; (with_reducible repeat (first | apply blk_drewN | apply blk_drew | apply blk_alloc)); refine blk_far ?_ NB433_449.out _; (with_reducible repeat (first | apply blk_drewN | apply blk_drew | apply blk_alloc)); refine blk_far ?_ NB433_449.out _; (with_reducible repeat (first | apply blk_drewN | apply blk_drew | apply blk_alloc)); exact BK433.out) hb); have n7_ := Aside0.mk (blk_below (g := gb441) (o := .cells #[.slice Ao96 t434.length co96, .bool t437, .bool t438, .int .i64 t439] 27 (0, 0)) (by (with_reducible repeat (first | apply blk_drewN | apply blk_drew | apply blk_alloc)); refine blk_far ?_ NB441_449.out _; (with_reducible repeat (first | apply blk_drewN | apply blk_drew | apply blk_alloc)); refine blk_far ?_ NB441_449.out _; (with_reducible repeat (first | apply blk_drewN | apply blk_drew | apply blk_alloc)); refine blk_far ?_ NB441_449.out _; (with_reducible repeat (first | apply blk_drewN | apply blk_drew | apply blk_alloc)); refine blk_far ?_ NB441_449.out _; (with_reducible repeat (first | apply blk_drewN | apply blk_drew | apply blk_alloc)); exact BK441.out) hb); have n8_ := Aside0.mk (blk_below (g := gb449) (o := .cells #[.slice Ao104 t442.length co104, .bool t445, .bool t446, .int .i64 t447] 27 (0, 0)) (by (with_reducible repeat (first | apply blk_drewN | apply blk_drew | apply blk_alloc)); refine blk_put (cs := #[.slice Ao104 t442.length co104, .bool t445, .bool t446, .int .i64 0]) ?_ 3 _ rfl; (with_reducible repeat (first | apply blk_drewN | apply blk_drew | apply blk_alloc)); refine blk_put (cs := #[.slice Ao104 t442.length co104, .bool t445, .bool false, .int .i64 0]) ?_ 2 _ rfl; (with_reducible repeat (first | apply blk_drewN | apply blk_drew | apply blk_alloc)); refine blk_put (cs := #[.slice Ao104 t442.length co104, .bool false, .bool false, .int .i64 0]) ?_ 1 _ rfl; (with_reducible repeat (first | apply blk_drewN | apply blk_drew | apply blk_alloc)); refine blk_put (cs := #[.slice none 0 0, .bool false, .bool false, .int .i64 0]) ?_ 0 _ rfl; (with_reducible repeat (first | apply blk_drewN | apply blk_drew | apply blk_alloc)); exact BK449.out) hb); have n9_ := Aside0.mk (below_step (by repeat (first | (with_reducible first | exact HB.out | apply below_alloc | apply pw_below_drewN | apply below_drew1 | refine below_set ?_ GE411.out | refine below_set ?_ GE433.out | refine below_set ?_ GE441.out | refine below_set ?_ GE449.out) | exact HB.out)) hb); clear HO_412000; clear HO423; clear HO429; clear HO436; clear HO444; clear BK411; clear BK433; clear BK441; clear BK449; clear HB; have HO_412000 := n0_; have HO423 := n1_; have HO429 := n2_; have HO436 := n3_; have HO444 := n4_; have BK411 := n5_; have BK433 := n6_; have BK441 := n7_; have BK449 := n8_; have HB := n9_; clear n0_ n1_ n2_ n3_ n4_ n5_ n6_ n7_ n8_ n9_; (try clear hb); (try clear hb2); (try clear hk); (try clear hi)) | ((with_reducible refine gate_dst (N := 18) rfl ?_); refine box_event ?hg (N := 18) ?hd (cs := #[.bool false, .string (⟨#[]⟩ : ByteArray), .string (⟨#[]⟩ : ByteArray)]) (t := 46) ?hr ?_; (case hd => rfl); (case hg => rfl); (case hr => first | (go_simp; done) | (go_simp; rfl)); intro gb454 hg w111 hbox hb; have n0_ := Aside0.mk (Kd.V_below (Kd.V_elderB (by (with_reducible repeat (first | apply Kd.V_alloc | apply Kd.V_drewN | apply Kd.V_drew)); exact HO_412000.out) gb454 (Nat.le_of_eq hg.symm)) hb); have n1_ := Aside0.mk (Kd.V_below (Kd.V_elderB (by (with_reducible repeat (first | apply Kd.V_alloc | apply Kd.V_drewN | apply Kd.V_drew)); exact HO423.out) gb454 (Nat.le_of_eq hg.symm)) hb); have n2_ := Aside0.mk (Kd.V_below (Kd.V_elderB (by (with_reducible repeat (first | apply Kd.V_alloc | apply Kd.V_drewN | apply Kd.V_drew)); exact HO429.out) gb454 (Nat.le_of_eq hg.symm)) hb); have n3_ := Aside0.mk (Kd.V_below (Kd.V_elderB (by (with_reducible repeat (first | apply Kd.V_alloc | apply Kd.V_drewN | apply Kd.V_drew)); exact HO436.out) gb454 (Nat.le_of_eq hg.symm)) hb); have n4_ := Aside0.mk (Kd.V_below (Kd.V_elderB (by (with_reducible repeat (first | apply Kd.V_alloc | apply Kd.V_drewN | apply Kd.V_drew)); exact HO444.out) gb454 (Nat.le_of_eq hg.symm)) hb); have n5_ := Aside0.mk (blk_below (g := gb411) (o := .cells #[.slice Ao83 t421.length co83, .bool t424, .bool t425, .int .i64 t426] 27 (0, 0)) (by (with_reducible repeat (first | apply blk_drewN | apply blk_drew | apply blk_alloc)); exact BK411.out) hb); have n6_ := Aside0.mk (blk_below (g := gb433) (o := .cells #[.slice Ao87 t427.length co87, .bool t430, .bool true, .int .i64 t432] 27 (0, 0)) (by (with_reducible repeat (first | apply blk_drewN | apply blk_drew | apply blk_alloc)); exact BK433.out) hb); have n7_ := Aside0.mk (blk_below (g := gb441) (o := .cells #[.slice Ao96 t434.length co96, .bool t437, .bool t438, .int .i64 t439] 27 (0, 0)) (by (with_reducible repeat (first | apply blk_drewN | apply blk_drew | apply blk_alloc)); exact BK441.out) hb); have n8_ := Aside0.mk (blk_below (g := gb449) (o := .cells #[.slice Ao104 t442.length co104, .bool t445, .bool t446, .int .i64 t447] 27 (0, 0)) (by (with_reducible repeat (first | apply blk_drewN | apply blk_drew | apply blk_alloc)); exact BK449.out) hb); have n9_ := Aside0.mk (below_step (by repeat (first | (with_reducible first | exact HB.out | apply below_alloc | apply pw_below_drewN | apply below_drew1 | refine below_set ?_ GE411.out | refine below_set ?_ GE433.out | refine below_set ?_ GE441.out | refine below_set ?_ GE449.out) | exact HB.out)) hb); have n10_ := Aside0.mk (hbox); have n11_ := Aside0.mk ((by rw [hg]; exact (below_size (by repeat (first | (with_reducible first | exact HB.out | apply below_alloc | apply pw_below_drewN | apply below_drew1 | refine below_set ?_ GE411.out | refine below_set ?_ GE433.out | refine below_set ?_ GE441.out | refine below_set ?_ GE449.out) | exact HB.out))) : w.heap.size ≤ gb454)); have n12_ := Aside0.mk ((by rw [hg]; exact (below_size (by repeat (first | (with_reducible first | exact HB.out | apply below_alloc | apply pw_below_drewN | apply below_drew1 | refine below_set ?_ GE411.out | refine below_set ?_ GE433.out | refine below_set ?_ GE441.out | refine below_set ?_ GE449.out) | exact HB.out))) : w.heap.size ≤ gb454)); have n13_ := Aside0.mk ((by rw [hg]; exact Nat.ne_of_lt (blk_lt (g := gb411) (o := .cells #[.slice Ao83 t421.length co83, .bool t424, .bool t425, .int .i64 t426] 27 (0, 0)) (by (with_reducible repeat (first | apply blk_drewN | apply blk_drew | apply blk_alloc)); exact BK411.out)) : gb411 ≠ gb454)); have n14_ := Aside0.mk ((by rw [hg]; exact Nat.ne_of_gt (blk_lt (g := gb411) (o := .cells #[.slice Ao83 t421.length co83, .bool t424, .bool t425, .int .i64 t426] 27 (0, 0)) (by (with_reducible repeat (first | apply blk_drewN | apply blk_drew | apply blk_alloc)); exact BK411.out)) : gb454 ≠ gb411)); have n15_ := Aside0.mk ((by rw [hg]; exact Nat.ne_of_lt (blk_lt (g := gb433) (o := .cells #[.slice Ao87 t427.length co87, .bool t430, .bool true, .int .i64 t432] 27 (0, 0)) (by (with_reducible repeat (first | apply blk_drewN | apply blk_drew | apply blk_alloc)); exact BK433.out)) : gb433 ≠ gb454)); have n16_ := Aside0.mk ((by rw [hg]; exact Nat.ne_of_gt (blk_lt (g := gb433) (o := .cells #[.slice Ao87 t427.length co87, .bool t430, .bool true, .int .i64 t432] 27 (0, 0)) (by (with_reducible repeat (first | apply blk_drewN | apply blk_drew | apply blk_alloc)); exact BK433.out)) : gb454 ≠ gb433)); have n17_ := Aside0.mk ((by rw [hg]; exact Nat.ne_of_lt (blk_lt (g := gb441) (o := .cells #[.slice Ao96 t434.length co96, .bool t437, .bool t438, .int .i64 t439] 27 (0, 0)) (by (with_reducible repeat (first | apply blk_drewN | apply blk_drew | apply blk_alloc)); exact BK441.out)) : gb441 ≠ gb454)); have n18_ := Aside0.mk ((by rw [hg]; exact Nat.ne_of_gt (blk_lt (g := gb441) (o := .cells #[.slice Ao96 t434.length co96, .bool t437, .bool t438, .int .i64 t439] 27 (0, 0)) (by (with_reducible repeat (first | apply blk_drewN | apply blk_drew | apply blk_alloc)); exact BK441.out)) : gb454 ≠ gb441)); have n19_ := Aside0.mk ((by rw [hg]; exact Nat.ne_of_lt (blk_lt (g := gb449) (o := .cells #[.slice Ao104 t442.length co104, .bool t445, .bool t446, .int .i64 t447] 27 (0, 0)) (by (with_reducible repeat (first | apply blk_drewN | apply blk_drew | apply blk_alloc)); exact BK449.out)) : gb449 ≠ gb454)); have n20_ := Aside0.mk ((by rw [hg]; exact Nat.ne_of_gt (blk_lt (g := gb449) (o := .cells #[.slice Ao104 t442.length co104, .bool t445, .bool t446, .int .i64 t447] 27 (0, 0)) (by (with_reducible repeat (first | apply blk_drewN | apply blk_drew | apply blk_alloc)); exact BK449.out)) : gb454 ≠ gb449)); clear HO_412000; clear HO423; clear HO429; clear HO436; clear HO444; clear BK411; clear BK433; clear BK441; clear BK449; clear HB; have HO_412000 := n0_; have HO423 := n1_; have HO429 := n2_; have HO436 := n3_; have HO444 := n4_; have BK411 := n5_; have BK433 := n6_; have BK441 := n7_; have BK449 := n8_; have HB := n9_; have BK454 := n10_; have GW454 := n11_; have GE454 := n12_; have NB411_454 := n13_; have NB454_411 := n14_; have NB433_454 := n15_; have NB454_433 := n16_; have NB441_454 := n17_; have NB454_441 := n18_; have NB449_454 := n19_; have NB454_449 := n20_; clear n0_ n1_ n2_ n3_ n4_ n5_ n6_ n7_ n8_ n9_ n10_ n11_ n12_ n13_ n14_ n15_ n16_ n17_ n18_ n19_ n20_; clear hb hbox hg; have hnb112 := NB454_411.out; have hnc112 := NB411_454.out; have hnb113 := NB454_433.out; have hnc113 := NB433_454.out; have hnb114 := NB454_441.out; have hnc114 := NB441_454.out; have hnb115 := NB454_449.out; have hnc115 := NB449_454.out; have hcz116_0 : w111.cell? ⟨gb454, 0, none⟩ = some (.bool false) := (blk_cell BK454.out 0).trans rfl; have hcz116_1 : w111.cell? ⟨gb454, 1, none⟩ = some (.string (⟨#[]⟩ : ByteArray)) := (blk_cell BK454.out 1).trans rfl; have hcz116_2 : w111.cell? ⟨gb454, 2, none⟩ = some (.string (⟨#[]⟩ : ByteArray)) := (blk_cell BK454.out 2).trans rfl; have hfz116_0 := blk_frozen BK454.out 0; have hfz116_1 := blk_frozen BK454.out 1; have hfz116_2 := blk_frozen BK454.out 2))
          have n0_ : Aside0 (Kd.V k44 44 (((w111.setCell ⟨gb454, 0, none⟩ (.bool false)).setCell ⟨gb454, 1, none⟩ (.string t451)).setCell ⟨gb454, 2, none⟩ (.string t452)) w.heap.size (fun k_ => k_ ≠ gb411 ∧ k_ ≠ gb433 ∧ k_ ≠ gb441 ∧ k_ ≠ gb449 ∧ k_ ≠ gb454) (.slice Ao81 x412000_7.length co81) x412000_7) := ⟨by (with_reducible repeat (first | apply Kd.V_alloc | apply Kd.V_drewN | apply Kd.V_drew)); exact Kd.V_mono (Kd.V_far (p := ⟨gb454, 2, none⟩) (Kd.V_far (p := ⟨gb454, 1, none⟩) (Kd.V_far (p := ⟨gb454, 0, none⟩) (Kd.V_mono HO_412000.out (fun k_ hk => (⟨hk, hk.2⟩ : _ ∧ k_ ≠ gb454))) (fun _ hk => hk.2) (.bool false)) (fun _ hk => hk.2) (.string t451)) (fun _ hk => hk.2) (.string t452)) (fun _ hk => ⟨hk.1.1.1.1, ⟨hk.1.1.1.2.1, ⟨hk.1.1.1.2.2, ⟨hk.1.1.2, hk.1.2⟩⟩⟩⟩)⟩
          have n1_ : Aside0 (Kd.V k44 44 (((w111.setCell ⟨gb454, 0, none⟩ (.bool false)).setCell ⟨gb454, 1, none⟩ (.string t451)).setCell ⟨gb454, 2, none⟩ (.string t452)) w.heap.size (fun k_ => k_ ≠ gb411 ∧ k_ ≠ gb433 ∧ k_ ≠ gb441 ∧ k_ ≠ gb449 ∧ k_ ≠ gb454) (.slice Ao83 t421.length co83) t421) := ⟨by (with_reducible repeat (first | apply Kd.V_alloc | apply Kd.V_drewN | apply Kd.V_drew)); exact Kd.V_mono (Kd.V_far (p := ⟨gb454, 2, none⟩) (Kd.V_far (p := ⟨gb454, 1, none⟩) (Kd.V_far (p := ⟨gb454, 0, none⟩) (Kd.V_mono HO423.out (fun k_ hk => (⟨hk, hk.2⟩ : _ ∧ k_ ≠ gb454))) (fun _ hk => hk.2) (.bool false)) (fun _ hk => hk.2) (.string t451)) (fun _ hk => hk.2) (.string t452)) (fun _ hk => ⟨hk.1.1.1.1, ⟨hk.1.1.1.2.1, ⟨hk.1.1.1.2.2, ⟨hk.1.1.2, hk.1.2⟩⟩⟩⟩)⟩
          have n2_ : Aside0 (Kd.V k44 44 (((w111.setCell ⟨gb454, 0, none⟩ (.bool false)).setCell ⟨gb454, 1, none⟩ (.string t451)).setCell ⟨gb454, 2, none⟩ (.string t452)) w.heap.size (fun k_ => k_ ≠ gb411 ∧ k_ ≠ gb433 ∧ k_ ≠ gb441 ∧ k_ ≠ gb449 ∧ k_ ≠ gb454) (.slice Ao87 t427.length co87) t427) := ⟨by (with_reducible repeat (first | apply Kd.V_alloc | apply Kd.V_drewN | apply Kd.V_drew)); exact Kd.V_mono (Kd.V_far (p := ⟨gb454, 2, none⟩) (Kd.V_far (p := ⟨gb454, 1, none⟩) (Kd.V_far (p := ⟨gb454, 0, none⟩) (Kd.V_mono HO429.out (fun k_ hk => (⟨hk, hk.2⟩ : _ ∧ k_ ≠ gb454))) (fun _ hk => hk.2) (.bool false)) (fun _ hk => hk.2) (.string t451)) (fun _ hk => hk.2) (.string t452)) (fun _ hk => ⟨hk.1.1.1.1, ⟨hk.1.1.1.2.1, ⟨hk.1.1.1.2.2, ⟨hk.1.1.2, hk.1.2⟩⟩⟩⟩)⟩
          have n3_ : Aside0 (Kd.V k44 44 (((w111.setCell ⟨gb454, 0, none⟩ (.bool false)).setCell ⟨gb454, 1, none⟩ (.string t451)).setCell ⟨gb454, 2, none⟩ (.string t452)) w.heap.size (fun k_ => k_ ≠ gb411 ∧ k_ ≠ gb433 ∧ k_ ≠ gb441 ∧ k_ ≠ gb449 ∧ k_ ≠ gb454) (.slice Ao96 t434.length co96) t434) := ⟨by (with_reducible repeat (first | apply Kd.V_alloc | apply Kd.V_drewN | apply Kd.V_drew)); exact Kd.V_mono (Kd.V_far (p := ⟨gb454, 2, none⟩) (Kd.V_far (p := ⟨gb454, 1, none⟩) (Kd.V_far (p := ⟨gb454, 0, none⟩) (Kd.V_mono HO436.out (fun k_ hk => (⟨hk, hk.2⟩ : _ ∧ k_ ≠ gb454))) (fun _ hk => hk.2) (.bool false)) (fun _ hk => hk.2) (.string t451)) (fun _ hk => hk.2) (.string t452)) (fun _ hk => ⟨hk.1.1.1.1, ⟨hk.1.1.1.2.1, ⟨hk.1.1.1.2.2, ⟨hk.1.1.2, hk.1.2⟩⟩⟩⟩)⟩
          have n4_ : Aside0 (Kd.V k44 44 (((w111.setCell ⟨gb454, 0, none⟩ (.bool false)).setCell ⟨gb454, 1, none⟩ (.string t451)).setCell ⟨gb454, 2, none⟩ (.string t452)) w.heap.size (fun k_ => k_ ≠ gb411 ∧ k_ ≠ gb433 ∧ k_ ≠ gb441 ∧ k_ ≠ gb449 ∧ k_ ≠ gb454) (.slice Ao104 t442.length co104) t442) := ⟨by (with_reducible repeat (first | apply Kd.V_alloc | apply Kd.V_drewN | apply Kd.V_drew)); exact Kd.V_mono (Kd.V_far (p := ⟨gb454, 2, none⟩) (Kd.V_far (p := ⟨gb454, 1, none⟩) (Kd.V_far (p := ⟨gb454, 0, none⟩) (Kd.V_mono HO444.out (fun k_ hk => (⟨hk, hk.2⟩ : _ ∧ k_ ≠ gb454))) (fun _ hk => hk.2) (.bool false)) (fun _ hk => hk.2) (.string t451)) (fun _ hk => hk.2) (.string t452)) (fun _ hk => ⟨hk.1.1.1.1, ⟨hk.1.1.1.2.1, ⟨hk.1.1.1.2.2, ⟨hk.1.1.2, hk.1.2⟩⟩⟩⟩)⟩
          have n5_ : Aside0 ((((w111.setCell ⟨gb454, 0, none⟩ (.bool false)).setCell ⟨gb454, 1, none⟩ (.string t451)).setCell ⟨gb454, 2, none⟩ (.string t452)).heap[gb411]? = some (.cells #[.slice Ao83 t421.length co83, .bool t424, .bool t425, .int .i64 t426] 27 (0, 0))) := ⟨by (with_reducible repeat (first | apply blk_drewN | apply blk_drew | apply blk_alloc)); refine blk_far ?_ NB411_454.out _; (with_reducible repeat (first | apply blk_drewN | apply blk_drew | apply blk_alloc)); refine blk_far ?_ NB411_454.out _; (with_reducible repeat (first | apply blk_drewN | apply blk_drew | apply blk_alloc)); refine blk_far ?_ NB411_454.out _; (with_reducible repeat (first | apply blk_drewN | apply blk_drew | apply blk_alloc)); exact BK411.out⟩
          have n6_ : Aside0 ((((w111.setCell ⟨gb454, 0, none⟩ (.bool false)).setCell ⟨gb454, 1, none⟩ (.string t451)).setCell ⟨gb454, 2, none⟩ (.string t452)).heap[gb433]? = some (.cells #[.slice Ao87 t427.length co87, .bool t430, .bool true, .int .i64 t432] 27 (0, 0))) := ⟨by (with_reducible repeat (first | apply blk_drewN | apply blk_drew | apply blk_alloc)); refine blk_far ?_ NB433_454.out _; (with_reducible repeat (first | apply blk_drewN | apply blk_drew | apply blk_alloc)); refine blk_far ?_ NB433_454.out _; (with_reducible repeat (first | apply blk_drewN | apply blk_drew | apply blk_alloc)); refine blk_far ?_ NB433_454.out _; (with_reducible repeat (first | apply blk_drewN | apply blk_drew | apply blk_alloc)); exact BK433.out⟩
          have n7_ : Aside0 ((((w111.setCell ⟨gb454, 0, none⟩ (.bool false)).setCell ⟨gb454, 1, none⟩ (.string t451)).setCell ⟨gb454, 2, none⟩ (.string t452)).heap[gb441]? = some (.cells #[.slice Ao96 t434.length co96, .bool t437, .bool t438, .int .i64 t439] 27 (0, 0))) := ⟨by (with_reducible repeat (first | apply blk_drewN | apply blk_drew | apply blk_alloc)); refine blk_far ?_ NB441_454.out _; (with_reducible repeat (first | apply blk_drewN | apply blk_drew | apply blk_alloc)); refine blk_far ?_ NB441_454.out _; (with_reducible repeat (first | apply blk_drewN | apply blk_drew | apply blk_alloc)); refine blk_far ?_ NB441_454.out _; (with_reducible repeat (first | apply blk_drewN | apply blk_drew | apply blk_alloc)); exact BK441.out⟩
          have n8_ : Aside0 ((((w111.setCell ⟨gb454, 0, none⟩ (.bool false)).setCell ⟨gb454, 1, none⟩ (.string t451)).setCell ⟨gb454, 2, none⟩ (.string t452)).heap[gb449]? = some (.cells #[.slice Ao104 t442.length co104, .bool t445, .bool t446, .int .i64 t447] 27 (0, 0))) := ⟨by (with_reducible repeat (first | apply blk_drewN | apply blk_drew | apply blk_alloc)); refine blk_far ?_ NB449_454.out _; (with_reducible repeat (first | apply blk_drewN | apply blk_drew | apply blk_alloc)); refine blk_far ?_ NB449_454.out _; (with_reducible repeat (first | apply blk_drewN | apply blk_drew | apply blk_alloc)); refine blk_far ?_ NB449_454.out _; (with_reducible repeat (first | apply blk_drewN | apply blk_drew | apply blk_alloc)); exact BK449.out⟩
          have n9_ : Aside0 ((((w111.setCell ⟨gb454, 0, none⟩ (.bool false)).setCell ⟨gb454, 1, none⟩ (.string t451)).setCell ⟨gb454, 2, none⟩ (.string t452)).heap[gb454]? = some (.cells #[.bool false, .string t451, .string t452] 46 (0, 0))) := ⟨by (with_reducible repeat (first | apply blk_drewN | apply blk_drew | apply blk_alloc)); refine blk_put (cs := #[.bool false, .string t451, .string (⟨#[]⟩ : ByteArray)]) ?_ 2 _ rfl; (with_reducible repeat (first | apply blk_drewN | apply blk_drew | apply blk_alloc)); refine blk_put (cs := #[.bool false, .string (⟨#[]⟩ : ByteArray), .string (⟨#[]⟩ : ByteArray)]) ?_ 1 _ rfl; (with_reducible repeat (first | apply blk_drewN | apply blk_drew | apply blk_alloc)); refine blk_put (cs := #[.bool false, .string (⟨#[]⟩ : ByteArray), .string (⟨#[]⟩ : ByteArray)]) ?_ 0 _ rfl; (with_reducible repeat (first | apply blk_drewN | apply blk_drew | apply blk_alloc)); exact BK454.out⟩
          have n10_ : Aside0 (Below w.heap.size w (((w111.setCell ⟨gb454, 0, none⟩ (.bool false)).setCell ⟨gb454, 1, none⟩ (.string t451)).setCell ⟨gb454, 2, none⟩ (.string t452))) := ⟨by repeat (first | (with_reducible first | exact HB.out | apply below_alloc | apply pw_below_drewN | apply below_drew1 | refine below_set ?_ GE411.out | refine below_set ?_ GE433.out | refine below_set ?_ GE441.out | refine below_set ?_ GE449.out | refine below_set ?_ GE454.out) | exact HB.out)⟩
          (try clear HO_412000)
          (try clear HO423)
          (try clear HO429)
          (try clear HO436)
          (try clear HO444)
          (try clear BK411)
          (try clear BK433)
          (try clear BK441)
          (try clear BK449)
          (try clear BK454)
          (try clear HB)
          generalize (((w111.setCell ⟨gb454, 0, none⟩ (.bool false)).setCell ⟨gb454, 1, none⟩ (.string t451)).setCell ⟨gb454, 2, none⟩ (.string t452)) = w117 at n0_ n1_ n2_ n3_ n4_ n5_ n6_ n7_ n8_ n9_ n10_ ⊢
          have HO_412000 := n0_
          have HO423 := n1_
          have HO429 := n2_
          have HO436 := n3_
          have HO444 := n4_
          have BK411 := n5_
          have BK433 := n6_
          have BK441 := n7_
          have BK449 := n8_
          have BK454 := n9_
          have HB := n10_
          clear n0_ n1_ n2_ n3_ n4_ n5_ n6_ n7_ n8_ n9_ n10_
          have n0_ := Aside0.mk (Kd.V_drew HO_412000.out)
          have n1_ := Aside0.mk (Kd.V_drew HO423.out)
          have n2_ := Aside0.mk (Kd.V_drew HO429.out)
          have n3_ := Aside0.mk (Kd.V_drew HO436.out)
          have n4_ := Aside0.mk (Kd.V_drew HO444.out)
          have n5_ := Aside0.mk (blk_drew BK411.out)
          have n6_ := Aside0.mk (blk_drew BK433.out)
          have n7_ := Aside0.mk (blk_drew BK441.out)
          have n8_ := Aside0.mk (blk_drew BK449.out)
          have n9_ := Aside0.mk (blk_drew BK454.out)
          have n10_ := Aside0.mk (below_drew1 HB.out)
          clear HO_412000
          clear HO423
          clear HO429
          clear HO436
          clear HO444
          clear BK411
          clear BK433
          clear BK441
          clear BK449
          clear BK454
          clear HB
          have HO_412000 := n0_
          have HO423 := n1_
          have HO429 := n2_
          have HO436 := n3_
          have HO444 := n4_
          have BK411 := n5_
          have BK433 := n6_
          have BK441 := n7_
          have BK449 := n8_
          have BK454 := n9_
          have HB := n10_
          clear n0_ n1_ n2_ n3_ n4_ n5_ n6_ n7_ n8_ n9_ n10_
          refine start_ (n := 35) (S := fun w' => w'.cell? ⟨gb454, 0, none⟩ = some (.bool false) ∧ w'.cell? ⟨gb454, 1, none⟩ = some (.string t451) ∧ w'.cell? ⟨gb454, 2, none⟩ = some (.string t452) ∧ w'.cell? ⟨gb441, 0, none⟩ = some (.slice Ao96 t434.length co96) ∧ w'.cell? ⟨gb441, 1, none⟩ = some (.bool t437) ∧ w'.cell? ⟨gb441, 2, none⟩ = some (.bool t438) ∧ w'.cell? ⟨gb441, 3, none⟩ = some (.int .i64 t439) ∧ w'.cell? ⟨gb433, 0, none⟩ = some (.slice Ao87 t427.length co87) ∧ w'.cell? ⟨gb433, 1, none⟩ = some (.bool t430) ∧ w'.cell? ⟨gb433, 2, none⟩ = some (.bool true) ∧ w'.cell? ⟨gb433, 3, none⟩ = some (.int .i64 t432) ∧ w'.cell? ⟨gb449, 0, none⟩ = some (.slice Ao104 t442.length co104) ∧ w'.cell? ⟨gb449, 1, none⟩ = some (.bool t445) ∧ w'.cell? ⟨gb449, 2, none⟩ = some (.bool t446) ∧ w'.cell? ⟨gb449, 3, none⟩ = some (.int .i64 t447) ∧ w'.cell? ⟨gb411, 0, none⟩ = some (.slice Ao83 t421.length co83) ∧ w'.cell? ⟨gb411, 1, none⟩ = some (.bool t424) ∧ w'.cell? ⟨gb411, 2, none⟩ = some (.bool t425) ∧ w'.cell? ⟨gb411, 3, none⟩ = some (.int .i64 t426)) (ds := []) #[false, false, false, false, false, false, false, false, false, false, false, false, false, false, false, false, false, false, false, false, false, false, false, false, false, false, false, false, false, false, false, false, false, false, false] (by kernel_rfl) rfl rfl ⟨(blk_cell BK454.out 0).trans rfl, (blk_cell BK454.out 1).trans rfl, (blk_cell BK454.out 2).trans rfl, (blk_cell BK441.out 0).trans rfl, (blk_cell BK441.out 1).trans rfl, (blk_cell BK441.out 2).trans rfl, (blk_cell BK441.out 3).trans rfl, (blk_cell BK433.out 0).trans rfl, (blk_cell BK433.out 1).trans rfl, (blk_cell BK433.out 2).trans rfl, (blk_cell BK433.out 3).trans rfl, (blk_cell BK449.out 0).trans rfl, (blk_cell BK449.out 1).trans rfl, (blk_cell BK449.out 2).trans rfl, (blk_cell BK449.out 3).trans rfl, (blk_cell BK411.out 0).trans rfl, (blk_cell BK411.out 1).trans rfl, (blk_cell BK411.out 2).trans rfl, (blk_cell BK411.out 3).trans rfl⟩ (fun hHeld => ?_); refine with_tabW clinkerlaw05_NandOff.tab15 clinkerlaw05_NandOff.bits15 (fun HT_ HW_ => ?_)
          generalize w117.drew = w118 at HO_412000 HO423 HO429 HO436 HO444 BK411 BK433 BK441 BK449 BK454 HB hHeld ⊢
          refine pure_ (i := 0) (N := some 89) (v := ?_) (a' := ?_) #[true, false, false, false, false, false, false, false, false, false, false, false, false, false, false, false, false, false, false, false, false, false, false, false, false, false, false, false, false, false, false, false, false, false, false] rfl rfl (any_of HT_.out (by kernel_rfl)) (fun _ _ _ h => h) (Or.inl ⟨by rfl, ?_⟩) ?_ ?_
          rotate_left
          ·
           intro w'
           go_simp
           with_reducible rfl
          rotate_left
          ·
           simp only [Act.put, List.setIfInBounds_toArray, List.set_cons_zero, List.set_cons_succ, i64_w, i32_w]
           rfl
          refine pure_ (i := 1) (N := some 90) (v := ?_) (a' := ?_) #[true, true, false, false, false, false, false, false, false, false, false, false, false, false, false, false, false, false, false, false, false, false, false, false, false, false, false, false, false, false, false, false, false, false, false] rfl rfl (any_of HT_.out (by kernel_rfl)) (fun _ _ _ h => h) (Or.inl ⟨by rfl, ?_⟩) ?_ ?_
          rotate_left
          ·
           intro w'
           go_simp
           with_reducible rfl
          rotate_left
          ·
           simp only [Act.put, List.setIfInBounds_toArray, List.set_cons_zero, List.set_cons_succ, i64_w, i32_w]
           rfl
          refine pure_ (i := 2) (N := some 91) (v := ?_) (a' := ?_) #[true, true, true, false, false, false, false, false, false, false, false, false, false, false, false, false, false, false, false, false, false, false, false, false, false, false, false, false, false, false, false, false, false, false, false] rfl rfl (any_of HT_.out (by kernel_rfl)) (fun _ _ _ h => h) (Or.inl ⟨by rfl, ?_⟩) ?_ ?_
          rotate_left
          ·
           intro w'
           go_simp
           with_reducible rfl
          rotate_left
          ·
           simp only [Act.put, List.setIfInBounds_toArray, List.set_cons_zero, List.set_cons_succ, i64_w, i32_w]
           rfl
          refine pure_ (i := 3) (N := some 92) (v := ?_) (a' := ?_) #[true, true, true, true, false, false, false, false, false, false, false, false, false, false, false, false, false, false, false, false, false, false, false, false, false, false, false, false, false, false, false, false, false, false, false] rfl rfl (any_of HT_.out (by kernel_rfl)) (fun _ _ _ h => h) (Or.inl ⟨by rfl, ?_⟩) ?_ ?_
          rotate_left
          ·
           intro w'
           go_simp
           with_reducible rfl
          rotate_left
          ·
           simp only [Act.put, List.setIfInBounds_toArray, List.set_cons_zero, List.set_cons_succ, i64_w, i32_w]
           rfl
          refine pure_ (i := 4) (N := some 93) (v := ?_) (a' := ?_) #[true, true, true, true, true, false, false, false, false, false, false, false, false, false, false, false, false, false, false, false, false, false, false, false, false, false, false, false, false, false, false, false, false, false, false] rfl rfl (any_of HT_.out (by kernel_rfl)) (fun _ _ _ h => h) (Or.inl ⟨by rfl, ?_⟩) ?_ ?_
          rotate_left
          ·
           intro w'
           go_simp
           with_reducible rfl
          rotate_left
          ·
           simp only [Act.put, List.setIfInBounds_toArray, List.set_cons_zero, List.set_cons_succ, i64_w, i32_w]
           rfl
          refine pure_ (i := 5) (N := some 94) (v := ?_) (a' := ?_) #[true, true, true, true, true, true, false, false, false, false, false, false, false, false, false, false, false, false, false, false, false, false, false, false, false, false, false, false, false, false, false, false, false, false, false] rfl rfl (any_of HT_.out (by kernel_rfl)) (fun _ _ _ h => h) (Or.inl ⟨by rfl, ?_⟩) ?_ ?_
          rotate_left
          ·
           intro w'
           go_simp
           with_reducible rfl
          rotate_left
          ·
           simp only [Act.put, List.setIfInBounds_toArray, List.set_cons_zero, List.set_cons_succ, i64_w, i32_w]
           rfl
          refine pure_ (i := 6) (N := some 95) (v := ?_) (a' := ?_) #[true, true, true, true, true, true, true, false, false, false, false, false, false, false, false, false, false, false, false, false, false, false, false, false, false, false, false, false, false, false, false, false, false, false, false] rfl rfl (any_of HT_.out (by kernel_rfl)) (fun _ _ _ h => h) (Or.inl ⟨by rfl, ?_⟩) ?_ ?_
          rotate_left
          ·
           intro w'
           go_simp
           with_reducible rfl
          rotate_left
          ·
           simp only [Act.put, List.setIfInBounds_toArray, List.set_cons_zero, List.set_cons_succ, i64_w, i32_w]
           rfl
          refine pure_ (i := 7) (N := some 96) (v := ?_) (a' := ?_) #[true, true, true, true, true, true, true, true, false, false, false, false, false, false, false, false, false, false, false, false, false, false, false, false, false, false, false, false, false, false, false, false, false, false, false] rfl rfl (any_of HT_.out (by kernel_rfl)) (fun _ _ _ h => h) (Or.inl ⟨by rfl, ?_⟩) ?_ ?_
          rotate_left
          ·
           intro w'
           go_simp
           with_reducible rfl
          rotate_left
          ·
           simp only [Act.put, List.setIfInBounds_toArray, List.set_cons_zero, List.set_cons_succ, i64_w, i32_w]
           rfl
          refine pure_ (i := 8) (N := some 97) (v := ?_) (a' := ?_) #[true, true, true, true, true, true, true, true, true, false, false, false, false, false, false, false, false, false, false, false, false, false, false, false, false, false, false, false, false, false, false, false, false, false, false] rfl rfl (any_of HT_.out (by kernel_rfl)) (fun _ _ _ h => h) (Or.inl ⟨by rfl, ?_⟩) ?_ ?_
          rotate_left
          ·
           intro w'
           go_simp
           with_reducible rfl
          rotate_left
          ·
           simp only [Act.put, List.setIfInBounds_toArray, List.set_cons_zero, List.set_cons_succ, i64_w, i32_w]
           rfl
          refine pure_ (i := 9) (N := some 98) (v := ?_) (a' := ?_) #[true, true, true, true, true, true, true, true, true, true, false, false, false, false, false, false, false, false, false, false, false, false, false, false, false, false, false, false, false, false, false, false, false, false, false] rfl rfl (any_of HT_.out (by kernel_rfl)) (fun _ _ _ h => h) (Or.inl ⟨by rfl, ?_⟩) ?_ ?_
          rotate_left
          ·
           intro w'
           go_simp
           with_reducible rfl
          rotate_left
          ·
           simp only [Act.put, List.setIfInBounds_toArray, List.set_cons_zero, List.set_cons_succ, i64_w, i32_w]
           rfl
          refine pure_ (i := 10) (N := some 99) (v := ?_) (a' := ?_) #[true, true, true, true, true, true, true, true, true, true, true, false, false, false, false, false, false, false, false, false, false, false, false, false, false, false, false, false, false, false, false, false, false, false, false] rfl rfl (any_of HT_.out (by kernel_rfl)) (fun _ _ _ h => h) (Or.inl ⟨by rfl, ?_⟩) ?_ ?_
          rotate_left
          ·
           intro w'
           go_simp
           with_reducible rfl
          rotate_left
          ·
           simp only [Act.put, List.setIfInBounds_toArray, List.set_cons_zero, List.set_cons_succ, i64_w, i32_w]
           rfl
          refine pure_ (i := 11) (N := some 100) (v := ?_) (a' := ?_) #[true, true, true, true, true, true, true, true, true, true, true, true, false, false, false, false, false, false, false, false, false, false, false, false, false, false, false, false, false, false, false, false, false, false, false] rfl rfl (any_of HT_.out (by kernel_rfl)) (fun _ _ _ h => h) (Or.inl ⟨by rfl, ?_⟩) ?_ ?_
          rotate_left
          ·
           intro w'
           go_simp
           with_reducible rfl
          rotate_left
          ·
           simp only [Act.put, List.setIfInBounds_toArray, List.set_cons_zero, List.set_cons_succ, i64_w, i32_w]
           rfl
          refine pure_ (i := 12) (N := some 101) (v := ?_) (a' := ?_) #[true, true, true, true, true, true, true, true, true, true, true, true, true, false, false, false, false, false, false, false, false, false, false, false, false, false, false, false, false, false, false, false, false, false, false] rfl rfl (any_of HT_.out (by kernel_rfl)) (fun _ _ _ h => h) (Or.inl ⟨by rfl, ?_⟩) ?_ ?_
          rotate_left
          ·
           intro w'
           go_simp
           with_reducible rfl
          rotate_left
          ·
           simp only [Act.put, List.setIfInBounds_toArray, List.set_cons_zero, List.set_cons_succ, i64_w, i32_w]
           rfl
          refine pure_ (i := 13) (N := some 102) (v := ?_) (a' := ?_) #[true, true, true, true, true, true, true, true, true, true, true, true, true, true, false, false, false, false, false, false, false, false, false, false, false, false, false, false, false, false, false, false, false, false, false] rfl rfl (any_of HT_.out (by kernel_rfl)) (fun _ _ _ h => h) (Or.inl ⟨by rfl, ?_⟩) ?_ ?_
          rotate_left
          ·
           intro w'
           go_simp
           with_reducible rfl
          rotate_left
          ·
           simp only [Act.put, List.setIfInBounds_toArray, List.set_cons_zero, List.set_cons_succ, i64_w, i32_w]
           rfl
          refine pure_ (i := 14) (N := some 103) (v := ?_) (a' := ?_) #[true, true, true, true, true, true, true, true, true, true, true, true, true, true, true, false, false, false, false, false, false, false, false, false, false, false, false, false, false, false, false, false, false, false, false] rfl rfl (any_of HT_.out (by kernel_rfl)) (fun _ _ _ h => h) (Or.inl ⟨by rfl, ?_⟩) ?_ ?_
          rotate_left
          ·
           intro w'
           go_simp
           with_reducible rfl
          rotate_left
          ·
           simp only [Act.put, List.setIfInBounds_toArray, List.set_cons_zero, List.set_cons_succ, i64_w, i32_w]
           rfl
          refine take_ (i := 15) (N := some 104) (v := ?_) (a' := ?_) #[true, true, true, true, true, true, true, true, true, true, true, true, true, true, true, true, false, false, false, false, false, false, false, false, false, false, false, false, false, false, false, false, false, false, false] rfl rfl (take_ofW HT_.out HW_.out (by kernel_rfl)) (fun _ _ _ h => h) (Or.inl ⟨by rfl, ?_⟩) hHeld ?_ ?_
          rotate_left
          ·
           rintro w' ⟨s0, s1, s2, s3, s4, s5, s6, s7, s8, s9, s10, s11, s12, s13, s14, s15, s16, s17, s18⟩
           go_simp
           with_reducible rfl
          rotate_left
          ·
           simp only [Act.put, List.setIfInBounds_toArray, List.set_cons_zero, List.set_cons_succ, i64_w, i32_w]
           rfl
          refine pure_ (i := 16) (N := some 105) (v := ?_) (a' := ?_) #[true, true, true, true, true, true, true, true, true, true, true, true, true, true, true, true, true, false, false, false, false, false, false, false, false, false, false, false, false, false, false, false, false, false, false] rfl rfl (any_of HT_.out (by kernel_rfl)) (fun _ _ _ h => h) (Or.inl ⟨by rfl, ?_⟩) ?_ ?_
          rotate_left
          ·
           intro w'
           go_simp
           with_reducible rfl
          rotate_left
          ·
           simp only [Act.put, List.setIfInBounds_toArray, List.set_cons_zero, List.set_cons_succ, i64_w, i32_w]
           rfl
          refine pure_ (i := 17) (N := some 106) (v := ?_) (a' := ?_) #[true, true, true, true, true, true, true, true, true, true, true, true, true, true, true, true, true, true, false, false, false, false, false, false, false, false, false, false, false, false, false, false, false, false, false] rfl rfl (any_of HT_.out (by kernel_rfl)) (fun _ _ _ h => h) (Or.inl ⟨by rfl, ?_⟩) ?_ ?_
          rotate_left
          ·
           intro w'
           go_simp
           with_reducible rfl
          rotate_left
          ·
           simp only [Act.put, List.setIfInBounds_toArray, List.set_cons_zero, List.set_cons_succ, i64_w, i32_w]
           rfl
          refine pure_ (i := 18) (N := some 107) (v := ?_) (a' := ?_) #[true, true, true, true, true, true, true, true, true, true, true, true, true, true, true, true, true, true, true, false, false, false, false, false, false, false, false, false, false, false, false, false, false, false, false] rfl rfl (any_of HT_.out (by kernel_rfl)) (fun _ _ _ h => h) (Or.inl ⟨by rfl, ?_⟩) ?_ ?_
          rotate_left
          ·
           intro w'
           go_simp
           with_reducible rfl
          rotate_left
          ·
           simp only [Act.put, List.setIfInBounds_toArray, List.set_cons_zero, List.set_cons_succ, i64_w, i32_w]
           rfl
          refine take_ (i := 19) (N := some 108) (v := ?_) (a' := ?_) #[true, true, true, true, true, true, true, true, true, true, true, true, true, true, true, true, true, true, true, true, false, false, false, false, false, false, false, false, false, false, false, false, false, false, false] rfl rfl (take_ofW HT_.out HW_.out (by kernel_rfl)) (fun _ _ _ h => h) (Or.inl ⟨by rfl, ?_⟩) hHeld ?_ ?_
          rotate_left
          ·
           rintro w' ⟨s0, s1, s2, s3, s4, s5, s6, s7, s8, s9, s10, s11, s12, s13, s14, s15, s16, s17, s18⟩
           go_simp
           with_reducible rfl
          rotate_left
          ·
           simp only [Act.put, List.setIfInBounds_toArray, List.set_cons_zero, List.set_cons_succ, i64_w, i32_w]
           rfl
          refine take_ (i := 20) (N := some 109) (v := ?_) (a' := ?_) #[true, true, true, true, true, true, true, true, true, true, true, true, true, true, true, true, true, true, true, true, true, false, false, false, false, false, false, false, false, false, false, false, false, false, false] rfl rfl (take_ofW HT_.out HW_.out (by kernel_rfl)) (fun _ _ _ h => h) (Or.inl ⟨by rfl, ?_⟩) hHeld ?_ ?_
          rotate_left
          ·
           rintro w' ⟨s0, s1, s2, s3, s4, s5, s6, s7, s8, s9, s10, s11, s12, s13, s14, s15, s16, s17, s18⟩
           go_simp
           with_reducible rfl
          rotate_left
          ·
           simp only [Act.put, List.setIfInBounds_toArray, List.set_cons_zero, List.set_cons_succ, i64_w, i32_w]
           rfl
          refine one_ (i := 21) (N := some 110) #[true, true, true, true, true, true, true, true, true, true, true, true, true, true, true, true, true, true, true, true, true, true, false, false, false, false, false, false, false, false, false, false, false, false, false] rfl rfl (one_of HT_.out (by kernel_rfl)) (by decide) (fun K hK => ?_)
          refine goes_ Try.func14 (by kernel_rfl) rfl #[.agg #[.slice Ao96 t434.length co96, .bool t437, .bool t438, .int .i64 t439], .agg #[.slice Ao87 t427.length co87, .bool t430, .bool true, .int .i64 t432]] (by rfl) rfl rfl (by (try simp only [List.map_toArray, List.map_cons, List.map_nil]); first | done | rfl | (simp only [List.length_drop, List.length_take]; rfl)) ?_
          with_reducible refine (clinkerref05_Same.calls _ _ t434 t437 t438 t439 _ _ t427 t430 true t432 true _ ?side1 ?side2 ?side3 ?side4 A74.out).mono ?_
          (case side1 => repeat (first | exact (Kd.V_reads' HO436.out).2.2 | (with_reducible refine Kd.C_alloc ?_ _) | (with_reducible refine Kd.C_drewN ?_ _) | (with_reducible refine Kd.C_drew ?_)))
          (case side2 => exact (Kd.V_reads' HO436.out).2.1)
          (case side3 => repeat (first | exact (Kd.V_reads' HO429.out).2.2 | (with_reducible refine Kd.C_alloc ?_ _) | (with_reducible refine Kd.C_drewN ?_ _) | (with_reducible refine Kd.C_drew ?_)))
          (case side4 => exact (Kd.V_reads' HO429.out).2.1)
          rintro e w119 ⟨rfl, hb⟩
          refine ⟨_, rfl, ?_⟩
          have n0_ := Aside0.mk (Kd.V_below (by (with_reducible repeat (first | apply Kd.V_alloc | apply Kd.V_drewN | apply Kd.V_drew)); exact HO_412000.out) hb)
          have n1_ := Aside0.mk (Kd.V_below (by (with_reducible repeat (first | apply Kd.V_alloc | apply Kd.V_drewN | apply Kd.V_drew)); exact HO423.out) hb)
          have n2_ := Aside0.mk (Kd.V_below (by (with_reducible repeat (first | apply Kd.V_alloc | apply Kd.V_drewN | apply Kd.V_drew)); exact HO429.out) hb)
          have n3_ := Aside0.mk (Kd.V_below (by (with_reducible repeat (first | apply Kd.V_alloc | apply Kd.V_drewN | apply Kd.V_drew)); exact HO436.out) hb)
          have n4_ := Aside0.mk (Kd.V_below (by (with_reducible repeat (first | apply Kd.V_alloc | apply Kd.V_drewN | apply Kd.V_drew)); exact HO444.out) hb)
          have n5_ := Aside0.mk (blk_below (g := gb411) (o := .cells #[.slice Ao83 t421.length co83, .bool t424, .bool t425, .int .i64 t426] 27 (0, 0)) (by (with_reducible repeat (first | apply blk_drewN | apply blk_drew | apply blk_alloc)); exact BK411.out) hb)
          have n6_ := Aside0.mk (blk_below (g := gb433) (o := .cells #[.slice Ao87 t427.length co87, .bool t430, .bool true, .int .i64 t432] 27 (0, 0)) (by (with_reducible repeat (first | apply blk_drewN | apply blk_drew | apply blk_alloc)); exact BK433.out) hb)
          have n7_ := Aside0.mk (blk_below (g := gb441) (o := .cells #[.slice Ao96 t434.length co96, .bool t437, .bool t438, .int .i64 t439] 27 (0, 0)) (by (with_reducible repeat (first | apply blk_drewN | apply blk_drew | apply blk_alloc)); exact BK441.out) hb)
          have n8_ := Aside0.mk (blk_below (g := gb449) (o := .cells #[.slice Ao104 t442.length co104, .bool t445, .bool t446, .int .i64 t447] 27 (0, 0)) (by (with_reducible repeat (first | apply blk_drewN | apply blk_drew | apply blk_alloc)); exact BK449.out) hb)
          have n9_ := Aside0.mk (blk_below (g := gb454) (o := .cells #[.bool false, .string t451, .string t452] 46 (0, 0)) (by (with_reducible repeat (first | apply blk_drewN | apply blk_drew | apply blk_alloc)); exact BK454.out) hb)
          have n10_ := Aside0.mk (below_step (by repeat (first | (with_reducible first | exact HB.out | apply below_alloc | apply pw_below_drewN | apply below_drew1 | refine below_set ?_ GE411.out | refine below_set ?_ GE433.out | refine below_set ?_ GE441.out | refine below_set ?_ GE449.out | refine below_set ?_ GE454.out) | exact HB.out)) hb)
          clear HO_412000
          clear HO423
          clear HO429
          clear HO436
          clear HO444
          clear BK411
          clear BK433
          clear BK441
          clear BK449
          clear BK454
          clear HB
          have HO_412000 := n0_
          have HO423 := n1_
          have HO429 := n2_
          have HO436 := n3_
          have HO444 := n4_
          have BK411 := n5_
          have BK433 := n6_
          have BK441 := n7_
          have BK449 := n8_
          have BK454 := n9_
          have HB := n10_
          clear n0_ n1_ n2_ n3_ n4_ n5_ n6_ n7_ n8_ n9_ n10_
          (try clear hb)
          (try clear hb2)
          (try clear hk)
          (try clear hi)
          refine hK.out _ _ ⟨(blk_cell BK454.out 0).trans rfl, (blk_cell BK454.out 1).trans rfl, (blk_cell BK454.out 2).trans rfl, (blk_cell BK441.out 0).trans rfl, (blk_cell BK441.out 1).trans rfl, (blk_cell BK441.out 2).trans rfl, (blk_cell BK441.out 3).trans rfl, (blk_cell BK433.out 0).trans rfl, (blk_cell BK433.out 1).trans rfl, (blk_cell BK433.out 2).trans rfl, (blk_cell BK433.out 3).trans rfl, (blk_cell BK449.out 0).trans rfl, (blk_cell BK449.out 1).trans rfl, (blk_cell BK449.out 2).trans rfl, (blk_cell BK449.out 3).trans rfl, (blk_cell BK411.out 0).trans rfl, (blk_cell BK411.out 1).trans rfl, (blk_cell BK411.out 2).trans rfl, (blk_cell BK411.out 3).trans rfl⟩ (fun hHeld => ?_)
          clear hK K
          refine norm_ (a' := ?_) ?_ ?_
          rotate_left
          ·
           show Act.put _ (some 110) _ = _
           simp only [Act.put, List.setIfInBounds_toArray, List.set_cons_zero, List.set_cons_succ, i64_w, i32_w]
           rfl
          refine pure_ (i := 22) (N := some 111) (v := ?_) (a' := ?_) #[true, true, true, true, true, true, true, true, true, true, true, true, true, true, true, true, true, true, true, true, true, true, true, false, false, false, false, false, false, false, false, false, false, false, false] rfl rfl (any_of HT_.out (by kernel_rfl)) (fun _ _ _ h => h) (Or.inl ⟨by rfl, ?_⟩) ?_ ?_
          rotate_left
          ·
           intro w'
           go_simp
           with_reducible rfl
          rotate_left
          ·
           simp only [Act.put, List.setIfInBounds_toArray, List.set_cons_zero, List.set_cons_succ, i64_w, i32_w]
           rfl
          refine pure_ (i := 23) (N := some 112) (v := ?_) (a' := ?_) #[true, true, true, true, true, true, true, true, true, true, true, true, true, true, true, true, true, true, true, true, true, true, true, true, false, false, false, false, false, false, false, false, false, false, false] rfl rfl (any_of HT_.out (by kernel_rfl)) (fun _ _ _ h => h) (Or.inl ⟨by rfl, ?_⟩) ?_ ?_
          rotate_left
          ·
           intro w'
           go_simp
           with_reducible rfl
          rotate_left
          ·
           simp only [Act.put, List.setIfInBounds_toArray, List.set_cons_zero, List.set_cons_succ, i64_w, i32_w]
           rfl
          refine take_ (i := 24) (N := some 113) (v := ?_) (a' := ?_) #[true, true, true, true, true, true, true, true, true, true, true, true, true, true, true, true, true, true, true, true, true, true, true, true, true, false, false, false, false, false, false, false, false, false, false] rfl rfl (take_ofW HT_.out HW_.out (by kernel_rfl)) (fun _ _ _ h => h) (Or.inl ⟨by rfl, ?_⟩) hHeld ?_ ?_
          rotate_left
          ·
           rintro w' ⟨s0, s1, s2, s3, s4, s5, s6, s7, s8, s9, s10, s11, s12, s13, s14, s15, s16, s17, s18⟩
           go_simp
           with_reducible rfl
          rotate_left
          ·
           simp only [Act.put, List.setIfInBounds_toArray, List.set_cons_zero, List.set_cons_succ, i64_w, i32_w]
           rfl
          refine take_ (i := 25) (N := some 114) (v := ?_) (a' := ?_) #[true, true, true, true, true, true, true, true, true, true, true, true, true, true, true, true, true, true, true, true, true, true, true, true, true, true, false, false, false, false, false, false, false, false, false] rfl rfl (take_ofW HT_.out HW_.out (by kernel_rfl)) (fun _ _ _ h => h) (Or.inl ⟨by rfl, ?_⟩) hHeld ?_ ?_
          rotate_left
          ·
           rintro w' ⟨s0, s1, s2, s3, s4, s5, s6, s7, s8, s9, s10, s11, s12, s13, s14, s15, s16, s17, s18⟩
           go_simp
           with_reducible rfl
          rotate_left
          ·
           simp only [Act.put, List.setIfInBounds_toArray, List.set_cons_zero, List.set_cons_succ, i64_w, i32_w]
           rfl
          refine one_ (i := 26) (N := some 115) #[true, true, true, true, true, true, true, true, true, true, true, true, true, true, true, true, true, true, true, true, true, true, true, true, true, true, true, false, false, false, false, false, false, false, false] rfl rfl (one_of HT_.out (by kernel_rfl)) (by decide) (fun K hK => ?_)
          refine goes_ Try.func14 (by kernel_rfl) rfl #[.agg #[.slice Ao104 t442.length co104, .bool t445, .bool t446, .int .i64 t447], .agg #[.slice Ao87 t427.length co87, .bool t430, .bool true, .int .i64 t432]] (by rfl) rfl rfl (by (try simp only [List.map_toArray, List.map_cons, List.map_nil]); first | done | rfl | (simp only [List.length_drop, List.length_take]; rfl)) ?_
          with_reducible refine (clinkerref05_Same.calls _ _ t442 t445 t446 t447 _ _ t427 t430 true t432 true _ ?side1 ?side2 ?side3 ?side4 A76.out).mono ?_
          (case side1 => repeat (first | exact (Kd.V_reads' HO444.out).2.2 | (with_reducible refine Kd.C_alloc ?_ _) | (with_reducible refine Kd.C_drewN ?_ _) | (with_reducible refine Kd.C_drew ?_)))
          (case side2 => exact (Kd.V_reads' HO444.out).2.1)
          (case side3 => repeat (first | exact (Kd.V_reads' HO429.out).2.2 | (with_reducible refine Kd.C_alloc ?_ _) | (with_reducible refine Kd.C_drewN ?_ _) | (with_reducible refine Kd.C_drew ?_)))
          (case side4 => exact (Kd.V_reads' HO429.out).2.1)
          rintro e w120 ⟨rfl, hb⟩
          refine ⟨_, rfl, ?_⟩
          have n0_ := Aside0.mk (Kd.V_below (by (with_reducible repeat (first | apply Kd.V_alloc | apply Kd.V_drewN | apply Kd.V_drew)); exact HO_412000.out) hb)
          have n1_ := Aside0.mk (Kd.V_below (by (with_reducible repeat (first | apply Kd.V_alloc | apply Kd.V_drewN | apply Kd.V_drew)); exact HO423.out) hb)
          have n2_ := Aside0.mk (Kd.V_below (by (with_reducible repeat (first | apply Kd.V_alloc | apply Kd.V_drewN | apply Kd.V_drew)); exact HO429.out) hb)
          have n3_ := Aside0.mk (Kd.V_below (by (with_reducible repeat (first | apply Kd.V_alloc | apply Kd.V_drewN | apply Kd.V_drew)); exact HO436.out) hb)
          have n4_ := Aside0.mk (Kd.V_below (by (with_reducible repeat (first | apply Kd.V_alloc | apply Kd.V_drewN | apply Kd.V_drew)); exact HO444.out) hb)
          have n5_ := Aside0.mk (blk_below (g := gb411) (o := .cells #[.slice Ao83 t421.length co83, .bool t424, .bool t425, .int .i64 t426] 27 (0, 0)) (by (with_reducible repeat (first | apply blk_drewN | apply blk_drew | apply blk_alloc)); exact BK411.out) hb)
          have n6_ := Aside0.mk (blk_below (g := gb433) (o := .cells #[.slice Ao87 t427.length co87, .bool t430, .bool true, .int .i64 t432] 27 (0, 0)) (by (with_reducible repeat (first | apply blk_drewN | apply blk_drew | apply blk_alloc)); exact BK433.out) hb)
          have n7_ := Aside0.mk (blk_below (g := gb441) (o := .cells #[.slice Ao96 t434.length co96, .bool t437, .bool t438, .int .i64 t439] 27 (0, 0)) (by (with_reducible repeat (first | apply blk_drewN | apply blk_drew | apply blk_alloc)); exact BK441.out) hb)
          have n8_ := Aside0.mk (blk_below (g := gb449) (o := .cells #[.slice Ao104 t442.length co104, .bool t445, .bool t446, .int .i64 t447] 27 (0, 0)) (by (with_reducible repeat (first | apply blk_drewN | apply blk_drew | apply blk_alloc)); exact BK449.out) hb)
          have n9_ := Aside0.mk (blk_below (g := gb454) (o := .cells #[.bool false, .string t451, .string t452] 46 (0, 0)) (by (with_reducible repeat (first | apply blk_drewN | apply blk_drew | apply blk_alloc)); exact BK454.out) hb)
          have n10_ := Aside0.mk (below_step (by repeat (first | (with_reducible first | exact HB.out | apply below_alloc | apply pw_below_drewN | apply below_drew1 | refine below_set ?_ GE411.out | refine below_set ?_ GE433.out | refine below_set ?_ GE441.out | refine below_set ?_ GE449.out | refine below_set ?_ GE454.out) | exact HB.out)) hb)
          clear HO_412000
          clear HO423
          clear HO429
          clear HO436
          clear HO444
          clear BK411
          clear BK433
          clear BK441
          clear BK449
          clear BK454
          clear HB
          have HO_412000 := n0_
          have HO423 := n1_
          have HO429 := n2_
          have HO436 := n3_
          have HO444 := n4_
          have BK411 := n5_
          have BK433 := n6_
          have BK441 := n7_
          have BK449 := n8_
          have BK454 := n9_
          have HB := n10_
          clear n0_ n1_ n2_ n3_ n4_ n5_ n6_ n7_ n8_ n9_ n10_
          (try clear hb)
          (try clear hb2)
          (try clear hk)
          (try clear hi)
          refine hK.out _ _ ⟨(blk_cell BK454.out 0).trans rfl, (blk_cell BK454.out 1).trans rfl, (blk_cell BK454.out 2).trans rfl, (blk_cell BK441.out 0).trans rfl, (blk_cell BK441.out 1).trans rfl, (blk_cell BK441.out 2).trans rfl, (blk_cell BK441.out 3).trans rfl, (blk_cell BK433.out 0).trans rfl, (blk_cell BK433.out 1).trans rfl, (blk_cell BK433.out 2).trans rfl, (blk_cell BK433.out 3).trans rfl, (blk_cell BK449.out 0).trans rfl, (blk_cell BK449.out 1).trans rfl, (blk_cell BK449.out 2).trans rfl, (blk_cell BK449.out 3).trans rfl, (blk_cell BK411.out 0).trans rfl, (blk_cell BK411.out 1).trans rfl, (blk_cell BK411.out 2).trans rfl, (blk_cell BK411.out 3).trans rfl⟩ (fun hHeld => ?_)
          clear hK K
          refine norm_ (a' := ?_) ?_ ?_
          rotate_left
          ·
           show Act.put _ (some 115) _ = _
           simp only [Act.put, List.setIfInBounds_toArray, List.set_cons_zero, List.set_cons_succ, i64_w, i32_w]
           rfl
          refine pure_ (i := 27) (N := some 116) (v := ?_) (a' := ?_) #[true, true, true, true, true, true, true, true, true, true, true, true, true, true, true, true, true, true, true, true, true, true, true, true, true, true, true, true, false, false, false, false, false, false, false] rfl rfl (any_of HT_.out (by kernel_rfl)) (fun _ _ _ h => h) (Or.inl ⟨by rfl, ?_⟩) ?_ ?_
          rotate_left
          ·
           intro w'
           go_simp
           with_reducible rfl
          rotate_left
          ·
           simp only [Act.put, List.setIfInBounds_toArray, List.set_cons_zero, List.set_cons_succ, i64_w, i32_w]
           rfl
          refine pure_ (i := 28) (N := some 117) (v := ?_) (a' := ?_) #[true, true, true, true, true, true, true, true, true, true, true, true, true, true, true, true, true, true, true, true, true, true, true, true, true, true, true, true, true, false, false, false, false, false, false] rfl rfl (any_of HT_.out (by kernel_rfl)) (fun _ _ _ h => h) (Or.inl ⟨by rfl, ?_⟩) ?_ ?_
          rotate_left
          ·
           intro w'
           go_simp
           with_reducible rfl
          rotate_left
          ·
           simp only [Act.put, List.setIfInBounds_toArray, List.set_cons_zero, List.set_cons_succ, i64_w, i32_w]
           rfl
          refine take_ (i := 29) (N := some 118) (v := ?_) (a' := ?_) #[true, true, true, true, true, true, true, true, true, true, true, true, true, true, true, true, true, true, true, true, true, true, true, true, true, true, true, true, true, true, false, false, false, false, false] rfl rfl (take_ofW HT_.out HW_.out (by kernel_rfl)) (fun _ _ _ h => h) (Or.inl ⟨by rfl, ?_⟩) hHeld ?_ ?_
          rotate_left
          ·
           rintro w' ⟨s0, s1, s2, s3, s4, s5, s6, s7, s8, s9, s10, s11, s12, s13, s14, s15, s16, s17, s18⟩
           go_simp
           with_reducible rfl
          rotate_left
          ·
           simp only [Act.put, List.setIfInBounds_toArray, List.set_cons_zero, List.set_cons_succ, i64_w, i32_w]
           rfl
          refine take_ (i := 31) (N := some 120) (v := ?_) (a' := ?_) #[true, true, true, true, true, true, true, true, true, true, true, true, true, true, true, true, true, true, true, true, true, true, true, true, true, true, true, true, true, true, false, true, false, false, false] rfl rfl (take_ofW HT_.out HW_.out (by kernel_rfl)) (fun _ _ _ h => h) (Or.inl ⟨by rfl, ?_⟩) hHeld ?_ ?_
          rotate_left
          ·
           rintro w' ⟨s0, s1, s2, s3, s4, s5, s6, s7, s8, s9, s10, s11, s12, s13, s14, s15, s16, s17, s18⟩
           go_simp
           with_reducible rfl
          rotate_left
          ·
           simp only [Act.put, List.setIfInBounds_toArray, List.set_cons_zero, List.set_cons_succ, i64_w, i32_w]
           rfl
          refine one_ (i := 30) (N := some 119) #[true, true, true, true, true, true, true, true, true, true, true, true, true, true, true, true, true, true, true, true, true, true, true, true, true, true, true, true, true, true, true, true, false, false, false] rfl rfl (one_of HT_.out (by kernel_rfl)) (by decide) (fun K hK => ?_)
          refine goes_ Try.func22 (by kernel_rfl) rfl #[.agg #[.slice Ao87 t427.length co87, .bool t430, .bool true, .int .i64 t432]] (by rfl) rfl rfl (by (try simp only [List.map_toArray, List.map_cons, List.map_nil]); first | done | rfl | (simp only [List.length_drop, List.length_take]; rfl)) ?_
          with_reducible refine (nand_On.calls (fun k_ => (k_ ≠ gb411 ∧ (k_ ≠ gb433 ∧ (k_ ≠ gb441 ∧ (k_ ≠ gb449 ∧ k_ ≠ gb454))))) _ _ t427 t430 true t432 t457 t460 t461 t462 _ ?side1 A78.out).mono ?_
          (case side1 => exact HO429.out)
          rintro e w121 ⟨v458, rfl, ho0, hb⟩
          refine ⟨_, rfl, ?_⟩
          have n0_ := Aside0.mk (Kd.V_below (by (with_reducible repeat (first | apply Kd.V_alloc | apply Kd.V_drewN | apply Kd.V_drew)); exact HO_412000.out) hb)
          have n1_ := Aside0.mk (Kd.V_below (by (with_reducible repeat (first | apply Kd.V_alloc | apply Kd.V_drewN | apply Kd.V_drew)); exact HO423.out) hb)
          have n2_ := Aside0.mk (Kd.V_below (by (with_reducible repeat (first | apply Kd.V_alloc | apply Kd.V_drewN | apply Kd.V_drew)); exact HO429.out) hb)
          have n3_ := Aside0.mk (Kd.V_below (by (with_reducible repeat (first | apply Kd.V_alloc | apply Kd.V_drewN | apply Kd.V_drew)); exact HO436.out) hb)
          have n4_ := Aside0.mk (Kd.V_below (by (with_reducible repeat (first | apply Kd.V_alloc | apply Kd.V_drewN | apply Kd.V_drew)); exact HO444.out) hb)
          have n5_ := Aside0.mk (Kd.V_lower (Kd.V_mono (ok' := fun k_ => k_ ≠ gb411 ∧ k_ ≠ gb433 ∧ k_ ≠ gb441 ∧ k_ ≠ gb449 ∧ k_ ≠ gb454) ho0 (fun k_ hk_ => ⟨Or.elim hk_ (fun hs_ => hs_.1) (fun hn_ => (Kd.freshB (g := gb411) (o := .cells #[.slice Ao83 t421.length co83, .bool t424, .bool t425, .int .i64 t426] 27 (0, 0)) (by (with_reducible repeat (first | apply blk_drewN | apply blk_drew | apply blk_alloc)); exact BK411.out) k_ hn_)), Or.elim hk_ (fun hs_ => hs_.2.1) (fun hn_ => (Kd.freshB (g := gb433) (o := .cells #[.slice Ao87 t427.length co87, .bool t430, .bool true, .int .i64 t432] 27 (0, 0)) (by (with_reducible repeat (first | apply blk_drewN | apply blk_drew | apply blk_alloc)); exact BK433.out) k_ hn_)), Or.elim hk_ (fun hs_ => hs_.2.2.1) (fun hn_ => (Kd.freshB (g := gb441) (o := .cells #[.slice Ao96 t434.length co96, .bool t437, .bool t438, .int .i64 t439] 27 (0, 0)) (by (with_reducible repeat (first | apply blk_drewN | apply blk_drew | apply blk_alloc)); exact BK441.out) k_ hn_)), Or.elim hk_ (fun hs_ => hs_.2.2.2.1) (fun hn_ => (Kd.freshB (g := gb449) (o := .cells #[.slice Ao104 t442.length co104, .bool t445, .bool t446, .int .i64 t447] 27 (0, 0)) (by (with_reducible repeat (first | apply blk_drewN | apply blk_drew | apply blk_alloc)); exact BK449.out) k_ hn_)), Or.elim hk_ (fun hs_ => hs_.2.2.2.2) (fun hn_ => (Kd.freshB (g := gb454) (o := .cells #[.bool false, .string t451, .string t452] 46 (0, 0)) (by (with_reducible repeat (first | apply blk_drewN | apply blk_drew | apply blk_alloc)); exact BK454.out) k_ hn_))⟩)) (below_size (by repeat (first | (with_reducible first | exact HB.out | apply below_alloc | apply pw_below_drewN | apply below_drew1 | refine below_set ?_ GE411.out | refine below_set ?_ GE433.out | refine below_set ?_ GE441.out | refine below_set ?_ GE449.out | refine below_set ?_ GE454.out) | exact HB.out))))
          have n6_ := Aside0.mk (blk_below (g := gb411) (o := .cells #[.slice Ao83 t421.length co83, .bool t424, .bool t425, .int .i64 t426] 27 (0, 0)) (by (with_reducible repeat (first | apply blk_drewN | apply blk_drew | apply blk_alloc)); exact BK411.out) hb)
          have n7_ := Aside0.mk (blk_below (g := gb433) (o := .cells #[.slice Ao87 t427.length co87, .bool t430, .bool true, .int .i64 t432] 27 (0, 0)) (by (with_reducible repeat (first | apply blk_drewN | apply blk_drew | apply blk_alloc)); exact BK433.out) hb)
          have n8_ := Aside0.mk (blk_below (g := gb441) (o := .cells #[.slice Ao96 t434.length co96, .bool t437, .bool t438, .int .i64 t439] 27 (0, 0)) (by (with_reducible repeat (first | apply blk_drewN | apply blk_drew | apply blk_alloc)); exact BK441.out) hb)
          have n9_ := Aside0.mk (blk_below (g := gb449) (o := .cells #[.slice Ao104 t442.length co104, .bool t445, .bool t446, .int .i64 t447] 27 (0, 0)) (by (with_reducible repeat (first | apply blk_drewN | apply blk_drew | apply blk_alloc)); exact BK449.out) hb)
          have n10_ := Aside0.mk (blk_below (g := gb454) (o := .cells #[.bool false, .string t451, .string t452] 46 (0, 0)) (by (with_reducible repeat (first | apply blk_drewN | apply blk_drew | apply blk_alloc)); exact BK454.out) hb)
          have n11_ := Aside0.mk (below_step (by repeat (first | (with_reducible first | exact HB.out | apply below_alloc | apply pw_below_drewN | apply below_drew1 | refine below_set ?_ GE411.out | refine below_set ?_ GE433.out | refine below_set ?_ GE441.out | refine below_set ?_ GE449.out | refine below_set ?_ GE454.out) | exact HB.out)) hb)
          clear HO_412000
          clear HO423
          clear HO429
          clear HO436
          clear HO444
          clear BK411
          clear BK433
          clear BK441
          clear BK449
          clear BK454
          clear HB
          have HO_412000 := n0_
          have HO423 := n1_
          have HO429 := n2_
          have HO436 := n3_
          have HO444 := n4_
          have HO459 := n5_
          have BK411 := n6_
          have BK433 := n7_
          have BK441 := n8_
          have BK449 := n9_
          have BK454 := n10_
          have HB := n11_
          clear n0_ n1_ n2_ n3_ n4_ n5_ n6_ n7_ n8_ n9_ n10_ n11_
          (try clear hb)
          (try clear hb2)
          (try clear hk)
          (try clear hi)
          (try clear ho0)
          obtain ⟨Ao122, co122, eo122⟩ := Kd.V_slice HO459.out
          (first | subst eo122 | (injection eo122 with f1_ f2_ f3_; have f4_ := f1_.symm; have f5_ := f3_.symm; clear f1_ f2_ f3_; subst f4_; subst f5_))
          refine hK.out _ _ ⟨(blk_cell BK454.out 0).trans rfl, (blk_cell BK454.out 1).trans rfl, (blk_cell BK454.out 2).trans rfl, (blk_cell BK441.out 0).trans rfl, (blk_cell BK441.out 1).trans rfl, (blk_cell BK441.out 2).trans rfl, (blk_cell BK441.out 3).trans rfl, (blk_cell BK433.out 0).trans rfl, (blk_cell BK433.out 1).trans rfl, (blk_cell BK433.out 2).trans rfl, (blk_cell BK433.out 3).trans rfl, (blk_cell BK449.out 0).trans rfl, (blk_cell BK449.out 1).trans rfl, (blk_cell BK449.out 2).trans rfl, (blk_cell BK449.out 3).trans rfl, (blk_cell BK411.out 0).trans rfl, (blk_cell BK411.out 1).trans rfl, (blk_cell BK411.out 2).trans rfl, (blk_cell BK411.out 3).trans rfl⟩ (fun hHeld => ?_)
          clear hK K
          refine norm_ (a' := ?_) ?_ ?_
          rotate_left
          ·
           show Act.put _ (some 119) _ = _
           simp only [Act.put, List.setIfInBounds_toArray, List.set_cons_zero, List.set_cons_succ, i64_w, i32_w]
           rfl
          refine one_ (i := 32) (N := some 121) #[true, true, true, true, true, true, true, true, true, true, true, true, true, true, true, true, true, true, true, true, true, true, true, true, true, true, true, true, true, true, true, true, true, false, false] rfl rfl (one_of HT_.out (by kernel_rfl)) (by decide) (fun K hK => ?_)
          refine goes_ Try.func14 (by kernel_rfl) rfl #[.agg #[.slice Ao122 t457.length co122, .bool t460, .bool t461, .int .i64 t462], .agg #[.slice Ao83 t421.length co83, .bool t424, .bool t425, .int .i64 t426]] (by rfl) rfl rfl (by (try simp only [List.map_toArray, List.map_cons, List.map_nil]); first | done | rfl | (simp only [List.length_drop, List.length_take]; rfl)) ?_
          with_reducible refine (clinkerref05_Same.calls _ _ t457 t460 t461 t462 _ _ t421 t424 t425 t426 t463 _ ?side1 ?side2 ?side3 ?side4 A79.out).mono ?_
          (case side1 => repeat (first | exact (Kd.V_reads' HO459.out).2.2 | (with_reducible refine Kd.C_alloc ?_ _) | (with_reducible refine Kd.C_drewN ?_ _) | (with_reducible refine Kd.C_drew ?_)))
          (case side2 => exact (Kd.V_reads' HO459.out).2.1)
          (case side3 => repeat (first | exact (Kd.V_reads' HO423.out).2.2 | (with_reducible refine Kd.C_alloc ?_ _) | (with_reducible refine Kd.C_drewN ?_ _) | (with_reducible refine Kd.C_drew ?_)))
          (case side4 => exact (Kd.V_reads' HO423.out).2.1)
          rintro e w123 ⟨rfl, hb⟩
          refine ⟨_, rfl, ?_⟩
          have n0_ := Aside0.mk (Kd.V_below (by (with_reducible repeat (first | apply Kd.V_alloc | apply Kd.V_drewN | apply Kd.V_drew)); exact HO_412000.out) hb)
          have n1_ := Aside0.mk (Kd.V_below (by (with_reducible repeat (first | apply Kd.V_alloc | apply Kd.V_drewN | apply Kd.V_drew)); exact HO423.out) hb)
          have n2_ := Aside0.mk (Kd.V_below (by (with_reducible repeat (first | apply Kd.V_alloc | apply Kd.V_drewN | apply Kd.V_drew)); exact HO429.out) hb)
          have n3_ := Aside0.mk (Kd.V_below (by (with_reducible repeat (first | apply Kd.V_alloc | apply Kd.V_drewN | apply Kd.V_drew)); exact HO436.out) hb)
          have n4_ := Aside0.mk (Kd.V_below (by (with_reducible repeat (first | apply Kd.V_alloc | apply Kd.V_drewN | apply Kd.V_drew)); exact HO444.out) hb)
          have n5_ := Aside0.mk (Kd.V_below (by (with_reducible repeat (first | apply Kd.V_alloc | apply Kd.V_drewN | apply Kd.V_drew)); exact HO459.out) hb)
          have n6_ := Aside0.mk (blk_below (g := gb411) (o := .cells #[.slice Ao83 t421.length co83, .bool t424, .bool t425, .int .i64 t426] 27 (0, 0)) (by (with_reducible repeat (first | apply blk_drewN | apply blk_drew | apply blk_alloc)); exact BK411.out) hb)
          have n7_ := Aside0.mk (blk_below (g := gb433) (o := .cells #[.slice Ao87 t427.length co87, .bool t430, .bool true, .int .i64 t432] 27 (0, 0)) (by (with_reducible repeat (first | apply blk_drewN | apply blk_drew | apply blk_alloc)); exact BK433.out) hb)
          have n8_ := Aside0.mk (blk_below (g := gb441) (o := .cells #[.slice Ao96 t434.length co96, .bool t437, .bool t438, .int .i64 t439] 27 (0, 0)) (by (with_reducible repeat (first | apply blk_drewN | apply blk_drew | apply blk_alloc)); exact BK441.out) hb)
          have n9_ := Aside0.mk (blk_below (g := gb449) (o := .cells #[.slice Ao104 t442.length co104, .bool t445, .bool t446, .int .i64 t447] 27 (0, 0)) (by (with_reducible repeat (first | apply blk_drewN | apply blk_drew | apply blk_alloc)); exact BK449.out) hb)
          have n10_ := Aside0.mk (blk_below (g := gb454) (o := .cells #[.bool false, .string t451, .string t452] 46 (0, 0)) (by (with_reducible repeat (first | apply blk_drewN | apply blk_drew | apply blk_alloc)); exact BK454.out) hb)
          have n11_ := Aside0.mk (below_step (by repeat (first | (with_reducible first | exact HB.out | apply below_alloc | apply pw_below_drewN | apply below_drew1 | refine below_set ?_ GE411.out | refine below_set ?_ GE433.out | refine below_set ?_ GE441.out | refine below_set ?_ GE449.out | refine below_set ?_ GE454.out) | exact HB.out)) hb)
          clear HO_412000
          clear HO423
          clear HO429
          clear HO436
          clear HO444
          clear HO459
          clear BK411
          clear BK433
          clear BK441
          clear BK449
          clear BK454
          clear HB
          have HO_412000 := n0_
          have HO423 := n1_
          have HO429 := n2_
          have HO436 := n3_
          have HO444 := n4_
          have HO459 := n5_
          have BK411 := n6_
          have BK433 := n7_
          have BK441 := n8_
          have BK449 := n9_
          have BK454 := n10_
          have HB := n11_
          clear n0_ n1_ n2_ n3_ n4_ n5_ n6_ n7_ n8_ n9_ n10_ n11_
          (try clear hb)
          (try clear hb2)
          (try clear hk)
          (try clear hi)
          refine hK.out _ _ ⟨(blk_cell BK454.out 0).trans rfl, (blk_cell BK454.out 1).trans rfl, (blk_cell BK454.out 2).trans rfl, (blk_cell BK441.out 0).trans rfl, (blk_cell BK441.out 1).trans rfl, (blk_cell BK441.out 2).trans rfl, (blk_cell BK441.out 3).trans rfl, (blk_cell BK433.out 0).trans rfl, (blk_cell BK433.out 1).trans rfl, (blk_cell BK433.out 2).trans rfl, (blk_cell BK433.out 3).trans rfl, (blk_cell BK449.out 0).trans rfl, (blk_cell BK449.out 1).trans rfl, (blk_cell BK449.out 2).trans rfl, (blk_cell BK449.out 3).trans rfl, (blk_cell BK411.out 0).trans rfl, (blk_cell BK411.out 1).trans rfl, (blk_cell BK411.out 2).trans rfl, (blk_cell BK411.out 3).trans rfl⟩ (fun hHeld => ?_)
          clear hK K
          refine norm_ (a' := ?_) ?_ ?_
          rotate_left
          ·
           show Act.put _ (some 121) _ = _
           simp only [Act.put, List.setIfInBounds_toArray, List.set_cons_zero, List.set_cons_succ, i64_w, i32_w]
           rfl
          refine pure_ (i := 33) (N := some 122) (v := ?_) (a' := ?_) #[true, true, true, true, true, true, true, true, true, true, true, true, true, true, true, true, true, true, true, true, true, true, true, true, true, true, true, true, true, true, true, true, true, true, false] rfl rfl (any_of HT_.out (by kernel_rfl)) (fun _ _ _ h => h) (Or.inl ⟨by rfl, ?_⟩) ?_ ?_
          rotate_left
          ·
           intro w'
           go_simp
           with_reducible rfl
          rotate_left
          ·
           simp only [Act.put, List.setIfInBounds_toArray, List.set_cons_zero, List.set_cons_succ, i64_w, i32_w]
           rfl
          refine pure_ (i := 34) (N := some 8) (v := ?_) (a' := ?_) #[true, true, true, true, true, true, true, true, true, true, true, true, true, true, true, true, true, true, true, true, true, true, true, true, true, true, true, true, true, true, true, true, true, true, true] rfl rfl (any_of HT_.out (by kernel_rfl)) (fun _ _ _ h => h) (Or.inl ⟨by rfl, ?_⟩) ?_ ?_
          rotate_left
          ·
           intro w'
           go_simp
           with_reducible rfl
          rotate_left
          ·
           simp only [Act.put, List.setIfInBounds_toArray, List.set_cons_zero, List.set_cons_succ, i64_w, i32_w]
           rfl
          refine done_ (done_of HT_.out (by kernel_rfl)) ?_
          try go_wp2
          go_ret
          exact ⟨by first | rfl | (simp [errW_none, errW_some] <;> rfl) | (simp [*, errW_none, errW_some] <;> rfl), by repeat (first | (with_reducible first | exact HB.out | apply below_alloc | apply pw_below_drewN | apply below_drew1 | refine below_set ?_ GE411.out | refine below_set ?_ GE433.out | refine below_set ?_ GE441.out | refine below_set ?_ GE449.out | refine below_set ?_ GE454.out) | exact HB.out)⟩
         ·
          replace c77 := Bool.eq_false_iff.mpr c77
          subst c77
          have H1 : (some false) = some r := by rw [if_neg (show ¬ (false = true) by decide)] at H; exact H
          clear H
          have H := H1
          clear H1
          exact absurd (H.trans (congrArg some hrt.out)) (by simp)
        ·
         replace c75 := Bool.eq_false_iff.mpr c75
         subst c75
         have H1 : (some false) = some r := by rw [if_neg (show ¬ (false = true) by decide)] at H; exact H
         clear H
         have H := H1
         clear H1
         exact absurd (H.trans (congrArg some hrt.out)) (by simp)
      ·
       rw [if_neg c33] at H
       have c33b0 : (t453 == 52) = false := beq_eq_false_iff_ne.mpr c33
       have c33b1 : (t453 != 52) = true := bne_iff_ne.mpr c33
       exact absurd (H.trans (congrArg some hrt.out)) (by simp)
     ·
      rw [if_neg c32] at H
      have c32b0 : (t448 == 52) = false := beq_eq_false_iff_ne.mpr c32
      have c32b1 : (t448 != 52) = true := bne_iff_ne.mpr c32
      exact absurd (H.trans (congrArg some hrt.out)) (by simp)
    ·
     rw [if_neg c31] at H
     have c31b0 : (t440 == 52) = false := beq_eq_false_iff_ne.mpr c31
     have c31b1 : (t440 != 52) = true := bne_iff_ne.mpr c31
     exact absurd (H.trans (congrArg some hrt.out)) (by simp)
 ·
  replace c6 := Bool.eq_false_iff.mpr c6
  subst c6
  have H1 : (some false) = some r := by rw [if_neg (show ¬ (false = true) by decide)] at H; exact H
  clear H
  have H := H1
  clear H1
  exact absurd (H.trans (congrArg some hrt.out)) (by simp)

end Go.Proofs.Ythjjngfbpoapnaa.PAll
