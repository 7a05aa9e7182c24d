/- Written by a program of this session (wip/xp) out of the translation: functions in plain Lean, and proofs that the calls come to these. -/
import Derived.Test.YthjjngfbpoapnaaPAllx0
import Derived.Test.YthjjngfbpoapnaaPAllx1
import Derived.Test.YthjjngfbpoapnaaPAllx3
import Derived.Test.YthjjngfbpoapnaaPAllx12
import Derived.Test.YthjjngfbpoapnaaPAllx15
import Derived.Test.YthjjngfbpoapnaaPAllx6
import Derived.Test.YthjjngfbpoapnaaPAllx9
import Derived.Test.YthjjngfbpoapnaaPAllx7
namespace Go.Proofs.Ythjjngfbpoapnaa.PAll
open Go.RowKit Go.Proofs.YthjjngfbpoapnaaW.PrintWords Go.Proofs.YthjjngfbpoapnaaW.PrintLast Go.Proofs.YthjjngfbpoapnaaW.PrintMore
attribute [local go_sem] max2_int min2_int max_two min_two max_three min_three max_four min_four   -- for this text's walks alone
set_option linter.unusedVariables false
set_option linter.unusedSimpArgs false

theorem rA {α : Type} {d : Kd α} {e : Nat} {w : World} {base : Nat} {ok : Nat → Prop} {v : Value} {xs : List α} (h : d.R e w base ok v xs) (o : Obj) : d.R e (w.alloc o) base ok v xs := Kd.R_alloc h o
theorem rN {α : Type} {d : Kd α} {e : Nat} {w : World} {base : Nat} {ok : Nat → Prop} {v : Value} {xs : List α} (h : d.R e w base ok v xs) (m : Nat) : d.R e (w.drewN m) base ok v xs := Kd.R_drewN h m
theorem rD {α : Type} {d : Kd α} {e : Nat} {w : World} {base : Nat} {ok : Nat → Prop} {v : Value} {xs : List α} (h : d.R e w base ok v xs) : d.R e w.drew base ok v xs := Kd.R_drew h
/-! ### clinkerlaw05_NandFresh: function 4 -/
mutual
def clinkerlaw05_NandFresh.j1 : Nat → Int → Int → Bool → List (S44) → Bool → Bool → Int → Option (Bool)
 | 0, _, _, _, _, _, _, _ => none
 | k + 1, x1, x2, x7, x149000, x149001, x149002, x149003 => (clinkerref05_On.f x149000 x149001 x149002 x149003).bind fun bt158 => ((nand_Erase.f bt158.1 bt158.2.1 bt158.2.2.1 bt158.2.2.2 (Int.tmod (wrap64 (x2)) 3) 0 (⟨#[]⟩ : ByteArray) (⟨#[]⟩ : ByteArray) 0).bind fun bt164 => (if 0 ≤ (Int.tmod (wrap64 (x2)) 3) then (if (Int.tmod (wrap64 (x2)) 3) < (bt158.1.length : Int) then (if (rd_T44 bt158.1 (Int.tmod (wrap64 (x2)) 3)).f3 = true then (if x7 = true then (some (bt164.2.2.2.2 == 1)) else (some false)) else (clinkerlaw05_NandFresh.l1 k x1 x7 (Int.tmod (wrap64 (x2)) 3) bt164.2.2.2.2 0 bt158.1 bt158.2.1 bt158.2.2.1 bt158.2.2.2 bt164.1 bt164.2.1 bt164.2.2.1 bt164.2.2.2.1)) else (none)) else (none)))
def clinkerlaw05_NandFresh.l1 : Nat → Int → Bool → Int → Int → Int → List (S44) → Bool → Bool → Int → List (S44) → Bool → Bool → Int → Option (Bool)
 | 0, _, _, _, _, _, _, _, _, _, _, _, _, _ => none
 | k + 1, x1, x7, x11, x13, x14, x149000, x149001, x149002, x149003, x172000, x172001, x172002, x172003 => if x14 < (wrap64 (1 + (Int.tmod (wrap64 (x1)) 5))) then ((nand_Read.f x172000 x172001 x172002 x172003 x11 x14).bind fun bt173 => ((nand_Program.f x172000 x172001 x172002 x172003 x11 x14 false (⟨#[120]⟩ : ByteArray) (⟨#[]⟩ : ByteArray) 0 (⟨#[]⟩ : ByteArray) (⟨#[]⟩ : ByteArray) 0).bind fun bt178 => (if bt173.2.2.2 = 0 then (if bt178.2.2.2.2 = 0 then (if bt173.1 = true then (some false) else (clinkerlaw05_NandFresh.l1 k x1 x7 x11 x13 (wrap64 (x14 + 1)) x149000 x149001 x149002 x149003 bt178.1 bt178.2.1 bt178.2.2.1 bt178.2.2.2.1)) else (some false)) else (some false)))) else (if x7 = true then (if x13 = 0 then (some (x172001 == x149001)) else (some false)) else (some false))
def clinkerlaw05_NandFresh.l0 : Nat → List (S37) → Int → Int → Bool → Int → List (S44) → Bool → Bool → Int → Option (Bool)
 | 0, _, _, _, _, _, _, _, _, _ => none
 | k + 1, x0, x1, x2, x7, x10, x149000, x149001, x149002, x149003 => if x10 < (x0.length : Int) then (if x10 < 12 then (if 0 ≤ x10 then ((clinkerlaw05_done.f k x149000 x149001 x149002 x149003 ((rd_T37 x0 x10).f0) ((rd_T37 x0 x10).f1) ((rd_T37 x0 x10).f2) ((rd_T37 x0 x10).f3) ((rd_T37 x0 x10).f4) ((rd_T37 x0 x10).f5)).bind fun bt150 => (clinkerlaw05_NandFresh.l0 k x0 x1 x2 x7 (wrap64 (x10 + 1)) bt150.1 bt150.2.1 bt150.2.2.1 bt150.2.2.2.1)) else (none)) else (clinkerlaw05_NandFresh.j1 k x1 x2 x7 x149000 x149001 x149002 x149003)) else (clinkerlaw05_NandFresh.j1 k x1 x2 x7 x149000 x149001 x149002 x149003)
end
def clinkerlaw05_NandFresh.f (k : Nat) (l0 : List (S37)) (a1 : Int) (a2 : Int) : Option (Bool) := (clinkerlaw05_awake.f).bind fun t140 => (if t140 = true then ((clinkerref05_New.f 3 (wrap64 (1 + (Int.tmod (wrap64 (a1)) 5))) ([] : List Int)).bind fun bt141 => (clinkerlaw05_NandFresh.l0 k l0 a1 a2 t140 0 bt141.1 bt141.2.1 bt141.2.2.1 bt141.2.2.2.1)) else (some false))
theorem clinkerlaw05_NandFresh.mono_l : ∀ k, (∀ y0 y1 y2 y3 y4 y5 y6, LeO (clinkerlaw05_NandFresh.j1 k y0 y1 y2 y3 y4 y5 y6) (clinkerlaw05_NandFresh.j1 (k + 1) y0 y1 y2 y3 y4 y5 y6)) ∧ (∀ y0 y1 y2 y3 y4 y5 y6 y7 y8 y9 y10 y11 y12, LeO (clinkerlaw05_NandFresh.l1 k y0 y1 y2 y3 y4 y5 y6 y7 y8 y9 y10 y11 y12) (clinkerlaw05_NandFresh.l1 (k + 1) y0 y1 y2 y3 y4 y5 y6 y7 y8 y9 y10 y11 y12)) ∧ (∀ y0 y1 y2 y3 y4 y5 y6 y7 y8, LeO (clinkerlaw05_NandFresh.l0 k y0 y1 y2 y3 y4 y5 y6 y7 y8) (clinkerlaw05_NandFresh.l0 (k + 1) y0 y1 y2 y3 y4 y5 y6 y7 y8))
 | 0 => ⟨fun _ _ _ _ _ _ _ r h => by simp [clinkerlaw05_NandFresh.j1] at h, fun _ _ _ _ _ _ _ _ _ _ _ _ _ r h => by simp [clinkerlaw05_NandFresh.l1] at h, fun _ _ _ _ _ _ _ _ _ r h => by simp [clinkerlaw05_NandFresh.l0] at h⟩
 | k + 1 => by
  obtain ⟨ih0, ih1, ih2⟩ := clinkerlaw05_NandFresh.mono_l k
  refine ⟨?_, ?_, ?_⟩
  ·
   intro y0 y1 y2 y3 y4 y5 y6
   unfold clinkerlaw05_NandFresh.j1
   repeat' first
   | (with_reducible exact ih0 _ _ _ _ _ _ _)
   | (with_reducible exact ih1 _ _ _ _ _ _ _ _ _ _ _ _ _)
   | (with_reducible exact ih2 _ _ _ _ _ _ _ _ _)
   | (with_reducible exact clinkerlaw05_done.mono _ _ _ _ _ _ _ _ _ _ _)
   | (with_reducible exact LeO.refl _)
   | (with_reducible exact LeO.none _)
   | (with_reducible refine LeO.ite ?_ ?_)
   | (with_reducible refine LeO.bind ?_ (fun _ => ?_))
   | exact ih0 _ _ _ _ _ _ _
   | exact ih1 _ _ _ _ _ _ _ _ _ _ _ _ _
   | exact ih2 _ _ _ _ _ _ _ _ _
   | exact clinkerlaw05_done.mono _ _ _ _ _ _ _ _ _ _ _
   | exact LeO.none _
   | refine LeO.ite ?_ ?_
   | refine LeO.bind ?_ (fun _ => ?_)
  ·
   intro y0 y1 y2 y3 y4 y5 y6 y7 y8 y9 y10 y11 y12
   unfold clinkerlaw05_NandFresh.l1
   repeat' first
   | (with_reducible exact ih0 _ _ _ _ _ _ _)
   | (with_reducible exact ih1 _ _ _ _ _ _ _ _ _ _ _ _ _)
   | (with_reducible exact ih2 _ _ _ _ _ _ _ _ _)
   | (with_reducible exact clinkerlaw05_done.mono _ _ _ _ _ _ _ _ _ _ _)
   | (with_reducible exact LeO.refl _)
   | (with_reducible exact LeO.none _)
   | (with_reducible refine LeO.ite ?_ ?_)
   | (with_reducible refine LeO.bind ?_ (fun _ => ?_))
   | exact ih0 _ _ _ _ _ _ _
   | exact ih1 _ _ _ _ _ _ _ _ _ _ _ _ _
   | exact ih2 _ _ _ _ _ _ _ _ _
   | exact clinkerlaw05_done.mono _ _ _ _ _ _ _ _ _ _ _
   | exact LeO.none _
   | refine LeO.ite ?_ ?_
   | refine LeO.bind ?_ (fun _ => ?_)
  ·
   intro y0 y1 y2 y3 y4 y5 y6 y7 y8
   unfold clinkerlaw05_NandFresh.l0
   repeat' first
   | (with_reducible exact ih0 _ _ _ _ _ _ _)
   | (with_reducible exact ih1 _ _ _ _ _ _ _ _ _ _ _ _ _)
   | (with_reducible exact ih2 _ _ _ _ _ _ _ _ _)
   | (with_reducible exact clinkerlaw05_done.mono _ _ _ _ _ _ _ _ _ _ _)
   | (with_reducible exact LeO.refl _)
   | (with_reducible exact LeO.none _)
   | (with_reducible refine LeO.ite ?_ ?_)
   | (with_reducible refine LeO.bind ?_ (fun _ => ?_))
   | exact ih0 _ _ _ _ _ _ _
   | exact ih1 _ _ _ _ _ _ _ _ _ _ _ _ _
   | exact ih2 _ _ _ _ _ _ _ _ _
   | exact clinkerlaw05_done.mono _ _ _ _ _ _ _ _ _ _ _
   | exact LeO.none _
   | refine LeO.ite ?_ ?_
   | refine LeO.bind ?_ (fun _ => ?_)
theorem clinkerlaw05_NandFresh.mono : ∀ a0 a1 a2 k, LeO (clinkerlaw05_NandFresh.f k a0 a1 a2) (clinkerlaw05_NandFresh.f (k + 1) a0 a1 a2) := by
 intro a0 a1 a2 k
 obtain ⟨ih0, ih1, ih2⟩ := clinkerlaw05_NandFresh.mono_l k
 unfold clinkerlaw05_NandFresh.f
 repeat' first
   | (with_reducible exact ih0 _ _ _ _ _ _ _)
   | (with_reducible exact ih1 _ _ _ _ _ _ _ _ _ _ _ _ _)
   | (with_reducible exact ih2 _ _ _ _ _ _ _ _ _)
   | (with_reducible exact clinkerlaw05_done.mono _ _ _ _ _ _ _ _ _ _ _)
   | (with_reducible exact LeO.refl _)
   | (with_reducible exact LeO.none _)
   | (with_reducible refine LeO.ite ?_ ?_)
   | (with_reducible refine LeO.bind ?_ (fun _ => ?_))
   | exact ih0 _ _ _ _ _ _ _
   | exact ih1 _ _ _ _ _ _ _ _ _ _ _ _ _
   | exact ih2 _ _ _ _ _ _ _ _ _
   | exact clinkerlaw05_done.mono _ _ _ _ _ _ _ _ _ _ _
   | exact LeO.none _
   | refine LeO.ite ?_ ?_
   | refine LeO.bind ?_ (fun _ => ?_)
def clinkerlaw05_NandFresh.T8 : Bool × List (List Nat × List Nat) := (true, [([], []), ([], []), ([], []), ([1, 2], [1, 2]), ([3], [3]), ([0, 4], [0, 4]), ([5], [5]), ([6], [6]), ([6], [6]), ([6], [6]), ([7, 5, 0, 1, 2, 3, 4, 5, 6, 7], [7])])
def clinkerlaw05_NandFresh.B8 : List Nat := [0, 0, 0, 6, 14, 31, 63, 127, 127, 127, 255]
theorem clinkerlaw05_NandFresh.tab8 : rtab .any (opsOf Try.f4 8) = clinkerlaw05_NandFresh.T8 := by kernel_rfl
theorem clinkerlaw05_NandFresh.bits8 : waitsOk clinkerlaw05_NandFresh.T8.2 clinkerlaw05_NandFresh.B8 = true := by kernel_rfl
set_option maxHeartbeats 8000000 in
set_option maxRecDepth 100000 in
theorem clinkerlaw05_NandFresh.calls (k : Nat) (A0 : Option Addr) (c0 : Nat) (l0 : List (S37)) (a1 : Int) (a2 : Int) (r : Bool) (hrt : Aside0 (r = true)) (w : World) (hr0 : Kd.C k37 w A0 l0.length l0) (hc0 : l0.length ≤ c0) (h : clinkerlaw05_NandFresh.f k l0 a1 a2 = some r) :
  Calls Try.prog 4 #[.slice A0 l0.length c0, .int .u8 a1, .int .u8 a2] w fun e w' => e = .returned (.bool r) ∧ Below w.heap.size w w' := by
 have hu27 := Try.underlying27
 have hu37 := Try.underlying37
 have hu41 := Try.underlying41
 have hu46 := Try.underlying46
 have HR0 := Aside0.mk hr0
 have HC0 := Aside0.mk hc0
 clear hr0 hc0
 have HB := Aside0.mk (Below.refl w.heap.size w)
 have H : ((clinkerlaw05_awake.f).bind fun t140 => (if t140 = true then ((clinkerref05_New.f 3 (wrap64 (1 + (Int.tmod (wrap64 (a1)) 5))) ([] : List Int)).bind fun bt141 => (clinkerlaw05_NandFresh.l0 k l0 a1 a2 t140 0 bt141.1 bt141.2.1 bt141.2.2.1 bt141.2.2.2.1)) else (some false))) = some r := h
 clear h
 replace H := Option.bind_eq_some_iff.mp H
 obtain ⟨t140, A40, H⟩ := H
 replace H : (if t140 = true then ((clinkerref05_New.f 3 (wrap64 (1 + (Int.tmod (wrap64 (a1)) 5))) ([] : List Int)).bind fun bt141 => (clinkerlaw05_NandFresh.l0 k l0 a1 a2 t140 0 bt141.1 bt141.2.1 bt141.2.2.1 bt141.2.2.2.1)) else (some false)) = some r := H
 have A4 := Aside0.mk A40
 clear A40
 by_cases c5 : t140 = true
 ·
  subst c5
  have H1 : ((clinkerref05_New.f 3 (wrap64 (1 + (Int.tmod (wrap64 (a1)) 5))) ([] : List Int)).bind fun bt141 => (clinkerlaw05_NandFresh.l0 k l0 a1 a2 true 0 bt141.1 bt141.2.1 bt141.2.2.1 bt141.2.2.2.1)) = some r := by rw [if_pos rfl] at H; exact H
  clear H
  have H := H1
  clear H1
  replace H := Option.bind_eq_some_iff.mp H
  obtain ⟨⟨t141, t144, t145, t146, t147⟩, A60, H⟩ := H
  replace H : (clinkerlaw05_NandFresh.l0 k l0 a1 a2 true 0 t141 t144 t145 t146) = some r := H
  have A6 := Aside0.mk A60
  clear A60
  have HC7 := Aside0.mk H
  clear H
  go_enter Try.func4, Try.ntmps4
  go_upto_block 0 with (first | ((with_reducible refine gate_callee (f := 11) rfl ?_); refine goesL_ (some 19) rfl rfl Try.func11 (by kernel_rfl) rfl #[] rfl (by (try simp only [List.map_toArray, List.map_cons, List.map_nil]); first | done | rfl | (simp only [List.length_drop, List.length_take]; rfl)) ?_; (with_reducible refine (clinkerlaw05_awake.calls  true _ A4.out).mono ?_); rintro e w8 ⟨rfl, hb⟩; refine ⟨_, rfl, ?_⟩; have n0_ := Aside0.mk (below_step (by repeat (first | exact HB.out | apply below_alloc | apply pw_below_drewN | apply below_drew1)) hb); clear HB; have HB := n0_; clear n0_; (try clear hb); (try clear hb2); (try clear hk); (try clear hi)) | ((with_reducible refine gate_callee (f := 13) rfl ?_); refine goesL_ (some 27) rfl rfl Try.func13 (by kernel_rfl) rfl #[.int .i64 3, .int .i64 (wrap64 (1 + (Int.tmod (wrap64 (a1)) 5))), .slice none 0 0] rfl (by (try simp only [List.map_toArray, List.map_cons, List.map_nil]); first | done | rfl | (simp only [List.length_drop, List.length_take]; rfl)) ?_; (refine (clinkerref05_New.calls 3 (wrap64 (1 + (Int.tmod (wrap64 (a1)) 5))) _ _ ([] : List Int) t141 t144 t145 t146 t147 _ ?side1 ?side2 A6.out).mono ?_); (case side1 => exact Kd.C_nil _ _); (case side2 => exact Nat.le_refl _); rintro e w9 ⟨v142, rfl, ho0, hb⟩; refine ⟨_, rfl, ?_⟩; have n0_ := Aside0.mk (Kd.V_lower (Kd.V_mono (ok' := fun k_ => True) ho0 (fun k_ hk_ => trivial)) (below_size (by repeat (first | exact HB.out | apply below_alloc | apply pw_below_drewN | apply below_drew1)))); have n1_ := Aside0.mk (below_step (by repeat (first | exact HB.out | apply below_alloc | apply pw_below_drewN | apply below_drew1)) hb); clear HB; have HO143 := n0_; have HB := n1_; clear n0_ n1_; (try clear hb); (try clear hb2); (try clear hk); (try clear hi); (try clear ho0)) | ((with_reducible refine gate_dst (N := 8) rfl ?_); refine box_event ?hg (N := 8) ?hd (cs := #[.slice none 0 0, .bool false, .bool false, .int .i64 0]) (t := 27) ?hr ?_; (case hd => rfl); (case hg => rfl); (case hr => first | (go_simp; done) | (go_simp; rfl)); intro gb148 hg w10 hbox hb; have n0_ := Aside0.mk (Kd.V_below (Kd.V_elderB (by (with_reducible repeat (first | apply Kd.V_alloc | apply Kd.V_drewN | apply Kd.V_drew)); exact HO143.out) gb148 (Nat.le_of_eq hg.symm)) hb); have n1_ := Aside0.mk (below_step (by repeat (first | exact HB.out | apply below_alloc | apply pw_below_drewN | apply below_drew1)) hb); have n2_ := Aside0.mk (hbox); have n3_ := Aside0.mk ((by rw [hg]; exact (below_size (by repeat (first | exact HB.out | apply below_alloc | apply pw_below_drewN | apply below_drew1))) : w.heap.size ≤ gb148)); have n4_ := Aside0.mk ((by rw [hg]; exact (below_size (by repeat (first | exact HB.out | apply below_alloc | apply pw_below_drewN | apply below_drew1))) : w.heap.size ≤ gb148)); clear HO143; clear HB; have HO143 := n0_; have HB := n1_; have BK148 := n2_; have GW148 := n3_; have GE148 := n4_; clear n0_ n1_ n2_ n3_ n4_; clear hb hbox hg; obtain ⟨Ao11, co11, eo11⟩ := Kd.V_slice HO143.out; subst eo11; have hcz12_0 : w10.cell? ⟨gb148, 0, none⟩ = some (.slice none 0 0) := (blk_cell BK148.out 0).trans rfl; have hcz12_1 : w10.cell? ⟨gb148, 1, none⟩ = some (.bool false) := (blk_cell BK148.out 1).trans rfl; have hcz12_2 : w10.cell? ⟨gb148, 2, none⟩ = some (.bool false) := (blk_cell BK148.out 2).trans rfl; have hcz12_3 : w10.cell? ⟨gb148, 3, none⟩ = some (.int .i64 0) := (blk_cell BK148.out 3).trans rfl; have hfz12_0 := blk_frozen BK148.out 0; have hfz12_1 := blk_frozen BK148.out 1; have hfz12_2 := blk_frozen BK148.out 2; have hfz12_3 := blk_frozen BK148.out 3))
  (try simp only [Act.put, List.setIfInBounds_toArray, List.set_cons_zero, List.set_cons_succ])
  go_cut [] (fun wc => ∃ (kq : Nat) (x149000_6 : List (S44)) (x149001_6 : Bool) (x149002_6 : Bool) (x149003_6 : Int) (u149000 : Value), Aside0 (clinkerlaw05_NandFresh.j1 kq a1 a2 true x149000_6 x149001_6 x149002_6 x149003_6 = some r) ∧ Aside0 (kq ≤ k) ∧ Aside0 (Kd.V k44 44 wc w.heap.size (fun k_ => k_ ≠ gb148) u149000 x149000_6) ∧ Aside0 (wc.heap[gb148]? = some (.cells #[u149000, .bool x149001_6, .bool x149002_6, .int .i64 x149003_6] 27 (0, 0))) ∧ Aside0 (Below w.heap.size w wc))
  case first =>
   have H := HC7.out
   clear HC7
   have H' := Aside0.mk H
   clear H
   go_wp2
   go_loopg [10] k (fun kq v10 w' => ∃ (x10_1 : Int) (x149000_1 : List (S44)) (x149001_1 : Bool) (x149002_1 : Bool) (x149003_1 : Int) (u149000 : Value), v10 = .int .i64 x10_1 ∧ Aside0 (clinkerlaw05_NandFresh.l0 kq l0 a1 a2 true x10_1 x149000_1 x149001_1 x149002_1 x149003_1 = some r) ∧ Aside0 (kq ≤ k) ∧ Aside0 (Kd.V k44 44 w' w.heap.size (fun k_ => k_ ≠ gb148) u149000 x149000_1) ∧ Aside0 (w'.heap[gb148]? = some (.cells #[u149000, .bool x149001_1, .bool x149002_1, .int .i64 x149003_1] 27 (0, 0))) ∧ Aside0 (Below w.heap.size w w'))
   case atStart => exact ⟨(0), (t141), (t144), (t145), (t146), (.slice Ao11 t141.length co11), (by first | rfl | (simp; done) | (simp [*]; done)), H', ⟨Nat.le_refl _⟩, ⟨by (with_reducible repeat (first | apply Kd.V_alloc | apply Kd.V_drewN | apply Kd.V_drew)); exact Kd.V_mono (Kd.V_far (p := ⟨gb148, 3, none⟩) (Kd.V_far (p := ⟨gb148, 2, none⟩) (Kd.V_far (p := ⟨gb148, 1, none⟩) (Kd.V_far (p := ⟨gb148, 0, none⟩) (Kd.V_mono HO143.out (fun k_ hk => (⟨hk, hk.2⟩ : _ ∧ k_ ≠ gb148))) (fun _ hk => hk.2) _) (fun _ hk => hk.2) (.bool t144)) (fun _ hk => hk.2) (.bool t145)) (fun _ hk => hk.2) _) (fun _ hk => hk.1.2)⟩, ⟨by (with_reducible repeat (first | apply blk_drewN | apply blk_drew | apply blk_alloc)); refine blk_put (cs := #[.slice Ao11 t141.length co11, .bool t144, .bool t145, .int .i64 0]) ?_ 3 _ rfl; (with_reducible repeat (first | apply blk_drewN | apply blk_drew | apply blk_alloc)); refine blk_put (cs := #[.slice Ao11 t141.length co11, .bool t144, .bool false, .int .i64 0]) ?_ 2 _ rfl; (with_reducible repeat (first | apply blk_drewN | apply blk_drew | apply blk_alloc)); refine blk_put (cs := #[.slice Ao11 t141.length co11, .bool false, .bool false, .int .i64 0]) ?_ 1 _ rfl; (with_reducible repeat (first | apply blk_drewN | apply blk_drew | apply blk_alloc)); refine blk_put (cs := #[.slice none 0 0, .bool false, .bool false, .int .i64 0]) ?_ 0 _ rfl; (with_reducible repeat (first | apply blk_drewN | apply blk_drew | apply blk_alloc)); exact BK148.out⟩, ⟨by repeat (first | exact HB.out | apply below_alloc | apply pw_below_drewN | apply below_drew1 | refine below_set ?_ GE148.out)⟩⟩
   case round =>
    clear H'
    try clear c1
    try clear p2
    try clear c4
    try clear c5
    try clear p6
    try clear c11
    try clear hcz12_0
    try clear hcz12_1
    try clear hcz12_2
    try clear hcz12_3
    try clear hfz12_0
    try clear hfz12_1
    try clear hfz12_2
    try clear hfz12_3
    obtain ⟨x10_1, x149000_1, x149001_1, x149002_1, x149003_1, u149000, rfl, HA, HK1, HO_149000, BK148, HB⟩ := hrel
    cases gk with
    | zero => exact absurd HA.out (by simp [clinkerlaw05_NandFresh.l0])
    | succ k1 =>
     have H := HA.out
     clear HA
     simp only [clinkerlaw05_NandFresh.l0] at H
     by_cases c13 : x10_1 < (l0.length : Int)
     ·
      rw [if_pos c13] at H
      have c13b0 : decide (x10_1 < (l0.length : Int)) = true := decide_eq_true c13
      clear c13
      (first | rw [c13b0] | (simp only [i64_w, i32_w]; rw [c13b0]) | skip)
      by_cases c14 : x10_1 < 12
      ·
       rw [if_pos c14] at H
       have c14b0 : decide (x10_1 < 12) = true := decide_eq_true c14
       clear c14
       by_cases c15 : 0 ≤ x10_1
       ·
        rw [if_pos c15] at H
        have c15b0 : decide (0 ≤ x10_1) = true := decide_eq_true c15
        clear c15
        replace H := Option.bind_eq_some_iff.mp H
        obtain ⟨⟨t150, t153, t154, t155, t156, t157⟩, A160, H⟩ := H
        replace H : (clinkerlaw05_NandFresh.l0 k1 l0 a1 a2 true (wrap64 (x10_1 + 1)) t150 t153 t154 t155) = some r := H
        have A16 := Aside0.mk A160
        clear A160
        have H' := Aside0.mk H
        clear H
        try go_wp2
        have n0_ := Aside0.mk (Kd.V_drew HO_149000.out)
        have n1_ := Aside0.mk (blk_drew BK148.out)
        have n2_ := Aside0.mk (below_drew1 HB.out)
        clear HO_149000
        clear BK148
        clear HB
        have HO_149000 := n0_
        have BK148 := n1_
        have HB := n2_
        clear n0_ n1_ n2_
        have p149 : 0 ≤ (x10_1 : Int) := of_decide_eq_true (by first | (with_reducible assumption) | assumption)
        have q149 : x10_1 < (l0.length : Int) := of_decide_eq_true (by first | (with_reducible assumption) | assumption)
        obtain ⟨ad149, e149, hx149_0, hx149_1, hx149_2, hx149_3, hx149_4, hx149_5⟩ := at_T37 HR0.out x10_1 p149 q149
        have hw149_5 := hx149_5
        have hw149_4 := hx149_4
        have hw149_3 := hx149_3
        have hw149_2 := hx149_2
        have hw149_1 := hx149_1
        have hw149_0 := hx149_0
        cases e149
        replace hx149_0 := (HB.out.cell (World.block_lt_of_cell? w _ hx149_0)).trans hx149_0
        replace hx149_1 := (HB.out.cell (World.block_lt_of_cell? w _ hx149_1)).trans hx149_1
        replace hx149_2 := (HB.out.cell (World.block_lt_of_cell? w _ hx149_2)).trans hx149_2
        replace hx149_3 := (HB.out.cell (World.block_lt_of_cell? w _ hx149_3)).trans hx149_3
        replace hx149_4 := (HB.out.cell (World.block_lt_of_cell? w _ hx149_4)).trans hx149_4
        replace hx149_5 := (HB.out.cell (World.block_lt_of_cell? w _ hx149_5)).trans hx149_5
        replace p149 := eq_true p149
        replace q149 := eq_true q149
        obtain ⟨Ao18, co18, eo18⟩ := Kd.V_slice HO_149000.out
        (first | subst eo18 | (injection eo18 with f1_ f2_ f3_; have f4_ := f1_.symm; have f5_ := f3_.symm; clear f1_ f2_ f3_; subst f4_; subst f5_))
        refine start_ (n := 11) (S := fun w' => w'.cell? ⟨gb148, 0, none⟩ = some (.slice Ao18 x149000_1.length co18) ∧ w'.cell? ⟨gb148, 1, none⟩ = some (.bool x149001_1) ∧ w'.cell? ⟨gb148, 2, none⟩ = some (.bool x149002_1) ∧ w'.cell? ⟨gb148, 3, none⟩ = some (.int .i64 x149003_1) ∧ w'.cell? (ad149.add ((x10_1).toNat * 6)) = some (.int .u8 ((rd_T37 l0 x10_1).f0)) ∧ w'.cell? ⟨(ad149.add ((x10_1).toNat * 6)).block, (ad149.add ((x10_1).toNat * 6)).off + 1, none⟩ = some (.int .u8 ((rd_T37 l0 x10_1).f1)) ∧ w'.cell? ⟨(ad149.add ((x10_1).toNat * 6)).block, (ad149.add ((x10_1).toNat * 6)).off + 2, none⟩ = some (.int .u8 ((rd_T37 l0 x10_1).f2)) ∧ w'.cell? ⟨(ad149.add ((x10_1).toNat * 6)).block, (ad149.add ((x10_1).toNat * 6)).off + 3, none⟩ = some (.int .u8 ((rd_T37 l0 x10_1).f3)) ∧ w'.cell? ⟨(ad149.add ((x10_1).toNat * 6)).block, (ad149.add ((x10_1).toNat * 6)).off + 4, none⟩ = some (.string ((rd_T37 l0 x10_1).f4)) ∧ w'.cell? ⟨(ad149.add ((x10_1).toNat * 6)).block, (ad149.add ((x10_1).toNat * 6)).off + 5, none⟩ = some (.string ((rd_T37 l0 x10_1).f5))) (ds := [10]) #[false, false, false, false, false, false, false, false, false, false, false] (by kernel_rfl) rfl rfl ⟨(blk_cell BK148.out 0).trans rfl, (blk_cell BK148.out 1).trans rfl, (blk_cell BK148.out 2).trans rfl, (blk_cell BK148.out 3).trans rfl, ((HB.out.cell (World.block_lt_of_cell? w _ hw149_0)).trans hw149_0), ((HB.out.cell (World.block_lt_of_cell? w _ hw149_1)).trans hw149_1), ((HB.out.cell (World.block_lt_of_cell? w _ hw149_2)).trans hw149_2), ((HB.out.cell (World.block_lt_of_cell? w _ hw149_3)).trans hw149_3), ((HB.out.cell (World.block_lt_of_cell? w _ hw149_4)).trans hw149_4), ((HB.out.cell (World.block_lt_of_cell? w _ hw149_5)).trans hw149_5)⟩ (fun hHeld => ?_); refine with_tabW clinkerlaw05_NandFresh.tab8 clinkerlaw05_NandFresh.bits8 (fun HT_ HW_ => ?_)
        generalize wr.drew = w17 at HO_149000 BK148 HB hx149_0 hx149_1 hx149_2 hx149_3 hx149_4 hx149_5 hHeld ⊢
        refine pure_ (i := 1) (N := some 42) (v := ?_) (a' := ?_) #[false, true, false, false, false, false, false, false, false, false, false] rfl rfl (any_of HT_.out (by kernel_rfl)) (fun _ _ _ h => h) (Or.inl ⟨by rfl, ?_⟩) ?_ ?_
        rotate_left
        ·
         intro w'
         go_simp
         with_reducible rfl
        rotate_left
        ·
         simp only [Act.put, List.setIfInBounds_toArray, List.set_cons_zero, List.set_cons_succ, i64_w, i32_w]
         rfl
        refine pure_ (i := 2) (N := some 43) (v := ?_) (a' := ?_) #[false, true, true, false, false, false, false, false, false, false, false] rfl rfl (any_of HT_.out (by kernel_rfl)) (fun _ _ _ h => h) (Or.inl ⟨by rfl, ?_⟩) ?_ ?_
        rotate_left
        ·
         intro w'
         go_simp
         with_reducible rfl
        rotate_left
        ·
         simp only [Act.put, List.setIfInBounds_toArray, List.set_cons_zero, List.set_cons_succ, i64_w, i32_w]
         rfl
        refine pure_ (i := 3) (N := some 44) (v := ?_) (a' := ?_) #[false, true, true, true, false, false, false, false, false, false, false] rfl rfl (any_of HT_.out (by kernel_rfl)) (fun _ _ _ h => h) (Or.inl ⟨by rfl, ?_⟩) ?_ ?_
        rotate_left
        ·
         intro w'
         go_simp
         with_reducible rfl
        rotate_left
        ·
         simp only [Act.put, List.setIfInBounds_toArray, List.set_cons_zero, List.set_cons_succ, i64_w, i32_w]
         rfl
        refine take_ (i := 0) (N := some 41) (v := ?_) (a' := ?_) #[true, true, true, true, false, false, false, false, false, false, false] rfl rfl (take_ofW HT_.out HW_.out (by kernel_rfl)) (fun _ _ _ h => h) (Or.inl ⟨by rfl, ?_⟩) hHeld ?_ ?_
        rotate_left
        ·
         rintro w' ⟨s0, s1, s2, s3, s4, s5, s6, s7, s8, s9⟩
         go_simp
         with_reducible rfl
        rotate_left
        ·
         simp only [Act.put, List.setIfInBounds_toArray, List.set_cons_zero, List.set_cons_succ, i64_w, i32_w]
         rfl
        refine take_ (i := 4) (N := some 45) (v := ?_) (a' := ?_) #[true, true, true, true, true, false, false, false, false, false, false] rfl rfl (take_ofW HT_.out HW_.out (by kernel_rfl)) (fun _ _ _ h => h) (Or.inl ⟨by rfl, ?_⟩) hHeld ?_ ?_
        rotate_left
        ·
         rintro w' ⟨s0, s1, s2, s3, s4, s5, s6, s7, s8, s9⟩
         go_simp
         with_reducible rfl
        rotate_left
        ·
         simp only [Act.put, List.setIfInBounds_toArray, List.set_cons_zero, List.set_cons_succ, i64_w, i32_w]
         rfl
        refine one_ (i := 5) (N := some 46) #[true, true, true, true, true, true, false, false, false, false, false] rfl rfl (one_of HT_.out (by kernel_rfl)) (by decide) (fun K hK => ?_)
        refine goes_ Try.func15 (by kernel_rfl) rfl #[.agg #[.slice Ao18 x149000_1.length co18, .bool x149001_1, .bool x149002_1, .int .i64 x149003_1], .agg #[.int .u8 ((rd_T37 l0 x10_1).f0), .int .u8 ((rd_T37 l0 x10_1).f1), .int .u8 ((rd_T37 l0 x10_1).f2), .int .u8 ((rd_T37 l0 x10_1).f3), .string ((rd_T37 l0 x10_1).f4), .string ((rd_T37 l0 x10_1).f5)]] (by rfl) rfl rfl (by (try simp only [List.map_toArray, List.map_cons, List.map_nil]); first | done | rfl | (simp only [List.length_drop, List.length_take]; rfl)) ?_
        with_reducible refine (clinkerlaw05_done.calls k1 _ _ x149000_1 x149001_1 x149002_1 x149003_1 ((rd_T37 l0 x10_1).f0) ((rd_T37 l0 x10_1).f1) ((rd_T37 l0 x10_1).f2) ((rd_T37 l0 x10_1).f3) ((rd_T37 l0 x10_1).f4) ((rd_T37 l0 x10_1).f5) t150 t153 t154 t155 t156 t157 _ ?side1 ?side2 A16.out).mono ?_
        (case side1 => repeat (first | exact (Kd.V_reads' HO_149000.out).2.2 | (with_reducible refine Kd.C_alloc ?_ _) | (with_reducible refine Kd.C_drewN ?_ _) | (with_reducible refine Kd.C_drew ?_)))
        (case side2 => exact (Kd.V_reads' HO_149000.out).2.1)
        rintro e w19 ⟨v151, rfl, ho0, hb⟩
        refine ⟨_, rfl, ?_⟩
        have n0_ := Aside0.mk (Kd.V_below (by (with_reducible repeat (first | apply Kd.V_alloc | apply Kd.V_drewN | apply Kd.V_drew)); exact HO_149000.out) hb)
        have n1_ := Aside0.mk (Kd.V_lower (Kd.V_mono (ok' := fun k_ => k_ ≠ gb148) ho0 (fun k_ hk_ => (Kd.freshB (g := gb148) (o := .cells #[.slice Ao18 x149000_1.length co18, .bool x149001_1, .bool x149002_1, .int .i64 x149003_1] 27 (0, 0)) (by (with_reducible repeat (first | apply blk_drewN | apply blk_drew | apply blk_alloc)); exact BK148.out) k_ hk_))) (below_size (by repeat (first | exact HB.out | apply below_alloc | apply pw_below_drewN | apply below_drew1 | refine below_set ?_ GE148.out))))
        have n2_ := Aside0.mk (blk_below (g := gb148) (o := .cells #[.slice Ao18 x149000_1.length co18, .bool x149001_1, .bool x149002_1, .int .i64 x149003_1] 27 (0, 0)) (by (with_reducible repeat (first | apply blk_drewN | apply blk_drew | apply blk_alloc)); exact BK148.out) hb)
        have n3_ := Aside0.mk (below_step (by repeat (first | exact HB.out | apply below_alloc | apply pw_below_drewN | apply below_drew1 | refine below_set ?_ GE148.out)) hb)
        clear HO_149000
        clear BK148
        clear HB
        have HO_149000 := n0_
        have HO152 := n1_
        have BK148 := n2_
        have HB := n3_
        clear n0_ n1_ n2_ n3_
        (try clear hb)
        (try clear hb2)
        (try clear hk)
        (try clear hi)
        (try clear ho0)
        obtain ⟨Ao20, co20, eo20⟩ := Kd.V_slice HO152.out
        (first | subst eo20 | (injection eo20 with f1_ f2_ f3_; have f4_ := f1_.symm; have f5_ := f3_.symm; clear f1_ f2_ f3_; subst f4_; subst f5_))
        refine hK.out _ _ ⟨(blk_cell BK148.out 0).trans rfl, (blk_cell BK148.out 1).trans rfl, (blk_cell BK148.out 2).trans rfl, (blk_cell BK148.out 3).trans rfl, ((HB.out.cell (World.block_lt_of_cell? w _ hw149_0)).trans hw149_0), ((HB.out.cell (World.block_lt_of_cell? w _ hw149_1)).trans hw149_1), ((HB.out.cell (World.block_lt_of_cell? w _ hw149_2)).trans hw149_2), ((HB.out.cell (World.block_lt_of_cell? w _ hw149_3)).trans hw149_3), ((HB.out.cell (World.block_lt_of_cell? w _ hw149_4)).trans hw149_4), ((HB.out.cell (World.block_lt_of_cell? w _ hw149_5)).trans hw149_5)⟩ (fun hHeld => ?_)
        clear hK K
        refine norm_ (a' := ?_) ?_ ?_
        rotate_left
        ·
         show Act.put _ (some 46) _ = _
         simp only [Act.put, List.setIfInBounds_toArray, List.set_cons_zero, List.set_cons_succ, i64_w, i32_w]
         rfl
        refine pure_ (i := 6) (N := some 40) (v := ?_) (a' := ?_) #[true, true, true, true, true, true, true, false, false, false, false] rfl rfl (any_of HT_.out (by kernel_rfl)) (fun _ _ _ h => h) (Or.inl ⟨by rfl, ?_⟩) ?_ ?_
        rotate_left
        ·
         intro w'
         go_simp
         with_reducible rfl
        rotate_left
        ·
         simp only [Act.put, List.setIfInBounds_toArray, List.set_cons_zero, List.set_cons_succ, i64_w, i32_w]
         rfl
        refine pure_ (i := 7) (N := some 47) (v := ?_) (a' := ?_) #[true, true, true, true, true, true, true, true, false, false, false] rfl rfl (any_of HT_.out (by kernel_rfl)) (fun _ _ _ h => h) (Or.inl ⟨by rfl, ?_⟩) ?_ ?_
        rotate_left
        ·
         intro w'
         go_simp
         with_reducible rfl
        rotate_left
        ·
         simp only [Act.put, List.setIfInBounds_toArray, List.set_cons_zero, List.set_cons_succ, i64_w, i32_w]
         rfl
        refine pure_ (i := 8) (N := some 48) (v := ?_) (a' := ?_) #[true, true, true, true, true, true, true, true, true, false, false] rfl rfl (any_of HT_.out (by kernel_rfl)) (fun _ _ _ h => h) (Or.inl ⟨by rfl, ?_⟩) ?_ ?_
        rotate_left
        ·
         intro w'
         go_simp
         with_reducible rfl
        rotate_left
        ·
         simp only [Act.put, List.setIfInBounds_toArray, List.set_cons_zero, List.set_cons_succ, i64_w, i32_w]
         rfl
        refine pure_ (i := 9) (N := some 49) (v := ?_) (a' := ?_) #[true, true, true, true, true, true, true, true, true, true, false] rfl rfl (any_of HT_.out (by kernel_rfl)) (fun _ _ _ h => h) (Or.inl ⟨by rfl, ?_⟩) ?_ ?_
        rotate_left
        ·
         intro w'
         go_simp
         with_reducible rfl
        rotate_left
        ·
         simp only [Act.put, List.setIfInBounds_toArray, List.set_cons_zero, List.set_cons_succ, i64_w, i32_w]
         rfl
        refine last_ (i := 10) (N := none) #[true, true, true, true, true, true, true, true, true, true, true] rfl rfl (one_of HT_.out (by kernel_rfl)) (by decide) (fun K hK => ?_)
        have hs21 : w19.cell? ⟨gb148, 0, none⟩ = some (.slice Ao18 x149000_1.length co18) := (blk_cell BK148.out 0).trans rfl
        have hfs21 := blk_frozen BK148.out 0
        have hs22 : w19.cell? ⟨gb148, 1, none⟩ = some (.bool x149001_1) := (blk_cell BK148.out 1).trans rfl
        have hfs22 := blk_frozen BK148.out 1
        have hs23 : w19.cell? ⟨gb148, 2, none⟩ = some (.bool x149002_1) := (blk_cell BK148.out 2).trans rfl
        have hfs23 := blk_frozen BK148.out 2
        have hs24 : w19.cell? ⟨gb148, 3, none⟩ = some (.int .i64 x149003_1) := (blk_cell BK148.out 3).trans rfl
        have hfs24 := blk_frozen BK148.out 3
        refine skip_ (w1 := ?_) (by rfl) rfl ?_ ?_
        rotate_left
        ·
         go_simp
         rfl
        refine hK.out _ _ ?_
        clear hK K
        refine done_ (done_of HT_.out (by kernel_rfl)) ?_
        try go_wp2
        go_roundg k1
        case measure => have := HK1.out; omega
        case rel => exact ⟨(wrap64 (x10_1 + 1)), (t150), (t153), (t154), (t155), (.slice Ao20 t150.length co20), (by first | rfl | (simp; done) | (simp [*]; done)), H', ⟨by have := HK1.out; omega⟩, ⟨by (with_reducible repeat (first | apply Kd.V_alloc | apply Kd.V_drewN | apply Kd.V_drew)); exact Kd.V_mono (Kd.V_far (p := ⟨gb148, 3, none⟩) (Kd.V_far (p := ⟨gb148, 2, none⟩) (Kd.V_far (p := ⟨gb148, 1, none⟩) (Kd.V_far (p := ⟨gb148, 0, none⟩) (Kd.V_mono HO152.out (fun k_ hk => (⟨hk, hk⟩ : _ ∧ k_ ≠ gb148))) (fun _ hk => hk.2) _) (fun _ hk => hk.2) (.bool t153)) (fun _ hk => hk.2) (.bool t154)) (fun _ hk => hk.2) _) (fun _ hk => hk.1)⟩, ⟨by (with_reducible repeat (first | apply blk_drewN | apply blk_drew | apply blk_alloc)); refine blk_put (cs := #[.slice Ao20 t150.length co20, .bool t153, .bool t154, .int .i64 x149003_1]) ?_ 3 _ rfl; (with_reducible repeat (first | apply blk_drewN | apply blk_drew | apply blk_alloc)); refine blk_put (cs := #[.slice Ao20 t150.length co20, .bool t153, .bool x149002_1, .int .i64 x149003_1]) ?_ 2 _ rfl; (with_reducible repeat (first | apply blk_drewN | apply blk_drew | apply blk_alloc)); refine blk_put (cs := #[.slice Ao20 t150.length co20, .bool x149001_1, .bool x149002_1, .int .i64 x149003_1]) ?_ 1 _ rfl; (with_reducible repeat (first | apply blk_drewN | apply blk_drew | apply blk_alloc)); refine blk_put (cs := #[.slice Ao18 x149000_1.length co18, .bool x149001_1, .bool x149002_1, .int .i64 x149003_1]) ?_ 0 _ rfl; (with_reducible repeat (first | apply blk_drewN | apply blk_drew | apply blk_alloc)); exact BK148.out⟩, ⟨by repeat (first | exact HB.out | apply below_alloc | apply pw_below_drewN | apply below_drew1 | refine below_set ?_ GE148.out)⟩⟩
       ·
        rw [if_neg c15] at H
        exact absurd H (by simp)
      ·
       rw [if_neg c14] at H
       have c14b0 : decide (x10_1 < 12) = false := decide_eq_false c14
       clear c14
       have H' := Aside0.mk H
       clear H
       go_wp2
       go_meet
       case rel => exact ⟨_, (x149000_1), (x149001_1), (x149002_1), (x149003_1), (u149000), H', ⟨by have := HK1.out; first | omega | exact Nat.le_refl _⟩, ⟨by (with_reducible repeat (first | apply Kd.V_alloc | apply Kd.V_drewN | apply Kd.V_drew)); exact HO_149000.out⟩, ⟨by (with_reducible repeat (first | apply blk_drewN | apply blk_drew | apply blk_alloc)); exact BK148.out⟩, ⟨by repeat (first | exact HB.out | apply below_alloc | apply pw_below_drewN | apply below_drew1 | refine below_set ?_ GE148.out)⟩⟩
     ·
      rw [if_neg c13] at H
      have c13b0 : decide (x10_1 < (l0.length : Int)) = false := decide_eq_false c13
      clear c13
      (first | rw [c13b0] | (simp only [i64_w, i32_w]; rw [c13b0]) | skip)
      have H' := Aside0.mk H
      clear H
      go_wp2
      go_meet
      case rel => exact ⟨_, (x149000_1), (x149001_1), (x149002_1), (x149003_1), (u149000), H', ⟨by have := HK1.out; first | omega | exact Nat.le_refl _⟩, ⟨by (with_reducible repeat (first | apply Kd.V_alloc | apply Kd.V_drewN | apply Kd.V_drew)); exact HO_149000.out⟩, ⟨by (with_reducible repeat (first | apply blk_drewN | apply blk_drew | apply blk_alloc)); exact BK148.out⟩, ⟨by repeat (first | exact HB.out | apply below_alloc | apply pw_below_drewN | apply below_drew1 | refine below_set ?_ GE148.out)⟩⟩
  case rest =>
   clear HC7
   try clear c1
   try clear p1
   try clear q1
   try clear hx1
   try clear p2
   try clear c4
   try clear c5
   try clear p6
   try clear c11
   try clear c13
   try clear c13b0
   try clear c14
   try clear c14b0
   try clear p14
   try clear q14
   try clear hx14
   try clear c15
   try clear c15b0
   try clear hcz12_0
   try clear hcz12_1
   try clear hcz12_2
   try clear hcz12_3
   try clear hfz12_0
   try clear hfz12_1
   try clear hfz12_2
   try clear hfz12_3
   try clear hx149_0
   try clear hx149_1
   try clear hx149_2
   try clear hx149_3
   try clear hx149_4
   try clear hx149_5
   try clear p149
   try clear p2
   try clear p6
   try clear q149
   obtain ⟨kq, x149000_6, x149001_6, x149002_6, x149003_6, u149000, HA, HJ6, HO_149000, BK148, HB⟩ := hcut
   cases kq with
   | zero => exact absurd HA.out (by simp [clinkerlaw05_NandFresh.j1])
   | succ kj6 =>
    have H := HA.out
    clear HA
    simp only [clinkerlaw05_NandFresh.j1] at H
    replace H := Option.bind_eq_some_iff.mp H
    obtain ⟨⟨t158, t161, t162, t163⟩, A250, H⟩ := H
    replace H : ((nand_Erase.f t158 t161 t162 t163 (Int.tmod (wrap64 (a2)) 3) 0 (⟨#[]⟩ : ByteArray) (⟨#[]⟩ : ByteArray) 0).bind fun bt164 => (if 0 ≤ (Int.tmod (wrap64 (a2)) 3) then (if (Int.tmod (wrap64 (a2)) 3) < (t158.length : Int) then (if (rd_T44 t158 (Int.tmod (wrap64 (a2)) 3)).f3 = true then (if true = true then (some (bt164.2.2.2.2 == 1)) else (some false)) else (clinkerlaw05_NandFresh.l1 kj6 a1 true (Int.tmod (wrap64 (a2)) 3) bt164.2.2.2.2 0 t158 t161 t162 t163 bt164.1 bt164.2.1 bt164.2.2.1 bt164.2.2.2.1)) else (none)) else (none))) = some r := H
    have A25 := Aside0.mk A250
    clear A250
    replace H := Option.bind_eq_some_iff.mp H
    obtain ⟨⟨t164, t167, t168, t169, t170⟩, A260, H⟩ := H
    replace H : (if 0 ≤ (Int.tmod (wrap64 (a2)) 3) then (if (Int.tmod (wrap64 (a2)) 3) < (t158.length : Int) then (if (rd_T44 t158 (Int.tmod (wrap64 (a2)) 3)).f3 = true then (if true = true then (some (t170 == 1)) else (some false)) else (clinkerlaw05_NandFresh.l1 kj6 a1 true (Int.tmod (wrap64 (a2)) 3) t170 0 t158 t161 t162 t163 t164 t167 t168 t169)) else (none)) else (none)) = some r := H
    have A26 := Aside0.mk A260
    clear A260
    obtain ⟨ji27, hji27⟩ : ∃ j_ : Int, (Int.tmod (wrap64 (a2)) 3) = j_ := ⟨_, rfl⟩
    replace H : (if 0 ≤ (ji27) then (if (ji27) < (t158.length : Int) then (if (rd_T44 t158 (ji27)).f3 = true then (if true = true then (some (t170 == 1)) else (some false)) else (clinkerlaw05_NandFresh.l1 kj6 a1 true ji27 t170 0 t158 t161 t162 t163 t164 t167 t168 t169)) else (none)) else (none)) = some r := by first | (rw [hji27] at H; exact H) | (simp only [hji27] at H ⊢; exact H)
    (try rw [hji27] at A25)
    (try rw [hji27] at A26)
    by_cases c28 : 0 ≤ (ji27)
    ·
     rw [if_pos c28] at H
     have c28b0 : decide (0 ≤ (ji27)) = true := decide_eq_true c28
     clear c28
     by_cases c29 : (ji27) < (t158.length : Int)
     ·
      rw [if_pos c29] at H
      have c29b0 : decide ((ji27) < (t158.length : Int)) = true := decide_eq_true c29
      clear c29
      obtain ⟨bq30, hbq30⟩ : ∃ b_ : Bool, b_ = ((rd_T44 t158 (ji27)).f3) := ⟨_, rfl⟩
      replace H : (if bq30 = true then (if true = true then (some (t170 == 1)) else (some false)) else (clinkerlaw05_NandFresh.l1 kj6 a1 true ji27 t170 0 t158 t161 t162 t163 t164 t167 t168 t169)) = some r := by rw [← hbq30] at H; exact H
      have Nbq30 := Aside0.mk hbq30
      clear hbq30
      by_cases c31 : bq30 = true
      ·
       subst c31
       have H1 : (if true = true then (some (t170 == 1)) else (some false)) = some r := by rw [if_pos rfl] at H; exact H
       clear H
       have H := H1
       clear H1
       replace H : (some (t170 == 1)) = some r := by first | exact H | (rw [if_pos rfl] at H; exact H) | simpa using H
       obtain rfl := Option.some.inj H
       have hcz32_0 : wc.cell? ⟨gb148, 0, none⟩ = some (u149000) := (blk_cell BK148.out 0).trans rfl
       have hcz32_1 : wc.cell? ⟨gb148, 1, none⟩ = some (.bool x149001_6) := (blk_cell BK148.out 1).trans rfl
       have hcz32_2 : wc.cell? ⟨gb148, 2, none⟩ = some (.bool x149002_6) := (blk_cell BK148.out 2).trans rfl
       have hcz32_3 : wc.cell? ⟨gb148, 3, none⟩ = some (.int .i64 x149003_6) := (blk_cell BK148.out 3).trans rfl
       have hfz32_0 := blk_frozen BK148.out 0
       have hfz32_1 := blk_frozen BK148.out 1
       have hfz32_2 := blk_frozen BK148.out 2
       have hfz32_3 := blk_frozen BK148.out 3
       obtain ⟨Ao33, co33, eo33⟩ := Kd.V_slice HO_149000.out
       subst eo33
       go_wp2_with (first | ((with_reducible refine gate_callee (f := 16) rfl ?_); refine goesL_ (some 51) rfl rfl Try.func16 (by kernel_rfl) rfl #[.agg #[.slice Ao33 x149000_6.length co33, .bool x149001_6, .bool x149002_6, .int .i64 x149003_6]] rfl (by (try simp only [List.map_toArray, List.map_cons, List.map_nil]); first | done | rfl | (simp only [List.length_drop, List.length_take]; rfl)) ?_; (with_reducible refine (clinkerref05_On.calls _ _ x149000_6 x149001_6 x149002_6 x149003_6 t158 t161 t162 t163 _ ?side1 ?side2 A25.out).mono ?_); (case side1 => repeat (first | exact (Kd.V_reads' HO_149000.out).2.2 | (with_reducible refine Kd.C_alloc ?_ _) | (with_reducible refine Kd.C_drewN ?_ _) | (with_reducible refine Kd.C_drew ?_))); (case side2 => exact (Kd.V_reads' HO_149000.out).2.1); rintro e w34 ⟨v159, rfl, ho0, hb⟩; refine ⟨_, rfl, ?_⟩; have n0_ := Aside0.mk (Kd.V_below (by (with_reducible repeat (first | apply Kd.V_alloc | apply Kd.V_drewN | apply Kd.V_drew)); exact HO_149000.out) hb); have n1_ := Aside0.mk (Kd.V_lower (Kd.V_mono (ok' := fun k_ => k_ ≠ gb148) ho0 (fun k_ hk_ => (Kd.freshB (g := gb148) (o := .cells #[.slice Ao33 x149000_6.length co33, .bool x149001_6, .bool x149002_6, .int .i64 x149003_6] 27 (0, 0)) (by (with_reducible repeat (first | apply blk_drewN | apply blk_drew | apply blk_alloc)); exact BK148.out) k_ hk_))) (below_size (by repeat (first | exact HB.out | apply below_alloc | apply pw_below_drewN | apply below_drew1 | refine below_set ?_ GE148.out)))); have n2_ := Aside0.mk (blk_below (g := gb148) (o := .cells #[.slice Ao33 x149000_6.length co33, .bool x149001_6, .bool x149002_6, .int .i64 x149003_6] 27 (0, 0)) (by (with_reducible repeat (first | apply blk_drewN | apply blk_drew | apply blk_alloc)); exact BK148.out) hb); have n3_ := Aside0.mk (below_step (by repeat (first | exact HB.out | apply below_alloc | apply pw_below_drewN | apply below_drew1 | refine below_set ?_ GE148.out)) hb); clear HO_149000; clear BK148; clear HB; have HO_149000 := n0_; have HO160 := n1_; have BK148 := n2_; have HB := n3_; clear n0_ n1_ n2_ n3_; (try clear hb); (try clear hb2); (try clear hk); (try clear hi); (try clear ho0); obtain ⟨Ao35, co35, eo35⟩ := Kd.V_slice HO160.out; subst eo35; have hcz36_0 : w34.cell? ⟨gb148, 0, none⟩ = some (.slice Ao33 x149000_6.length co33) := (blk_cell BK148.out 0).trans rfl; have hcz36_1 : w34.cell? ⟨gb148, 1, none⟩ = some (.bool x149001_6) := (blk_cell BK148.out 1).trans rfl; have hcz36_2 : w34.cell? ⟨gb148, 2, none⟩ = some (.bool x149002_6) := (blk_cell BK148.out 2).trans rfl; have hcz36_3 : w34.cell? ⟨gb148, 3, none⟩ = some (.int .i64 x149003_6) := (blk_cell BK148.out 3).trans rfl; have hfz36_0 := blk_frozen BK148.out 0; have hfz36_1 := blk_frozen BK148.out 1; have hfz36_2 := blk_frozen BK148.out 2; have hfz36_3 := blk_frozen BK148.out 3) | ((with_reducible refine gate_store (t := 27) (p := 8) rfl ?_); refine store_event (t := 27) (p := 8) (v := ?vo_w37) (w1 := ((((w34.setCell ⟨gb148, 0, none⟩ (.slice Ao35 t158.length co35)).setCell ⟨gb148, 1, none⟩ (.bool t161)).setCell ⟨gb148, 2, none⟩ (.bool t162)).setCell ⟨gb148, 3, none⟩ (.int .i64 t163))) ?hg ?ho ?hn ?hr ?_; (case ho => rfl); (case hg => rfl); (case hn => rfl); (case hr => first | (go_simp; done) | (go_simp; rfl)); intro w37 hw; have n0_ : Aside0 (Kd.V k44 44 w37 w.heap.size (fun k_ => k_ ≠ gb148) (.slice Ao33 x149000_6.length co33) x149000_6) := ⟨(by rw [hw]; exact (by (with_reducible repeat (first | apply Kd.V_alloc | apply Kd.V_drewN | apply Kd.V_drew)); exact Kd.V_mono (Kd.V_far (p := ⟨gb148, 3, none⟩) (Kd.V_far (p := ⟨gb148, 2, none⟩) (Kd.V_far (p := ⟨gb148, 1, none⟩) (Kd.V_far (p := ⟨gb148, 0, none⟩) (Kd.V_mono HO_149000.out (fun k_ hk => (⟨hk, hk⟩ : _ ∧ k_ ≠ gb148))) (fun _ hk => hk.2) _) (fun _ hk => hk.2) (.bool t161)) (fun _ hk => hk.2) (.bool t162)) (fun _ hk => hk.2) _) (fun _ hk => hk.1)))⟩; have n1_ : Aside0 (Kd.V k44 44 w37 w.heap.size (fun k_ => k_ ≠ gb148) (.slice Ao35 t158.length co35) t158) := ⟨(by rw [hw]; exact (by (with_reducible repeat (first | apply Kd.V_alloc | apply Kd.V_drewN | apply Kd.V_drew)); exact Kd.V_mono (Kd.V_far (p := ⟨gb148, 3, none⟩) (Kd.V_far (p := ⟨gb148, 2, none⟩) (Kd.V_far (p := ⟨gb148, 1, none⟩) (Kd.V_far (p := ⟨gb148, 0, none⟩) (Kd.V_mono HO160.out (fun k_ hk => (⟨hk, hk⟩ : _ ∧ k_ ≠ gb148))) (fun _ hk => hk.2) _) (fun _ hk => hk.2) (.bool t161)) (fun _ hk => hk.2) (.bool t162)) (fun _ hk => hk.2) _) (fun _ hk => hk.1)))⟩; have n2_ : Aside0 (w37.heap[gb148]? = some (.cells #[.slice Ao35 t158.length co35, .bool t161, .bool t162, .int .i64 t163] 27 (0, 0))) := ⟨(by rw [hw]; exact (by (with_reducible repeat (first | apply blk_drewN | apply blk_drew | apply blk_alloc)); refine blk_put (cs := #[.slice Ao35 t158.length co35, .bool t161, .bool t162, .int .i64 x149003_6]) ?_ 3 _ rfl; (with_reducible repeat (first | apply blk_drewN | apply blk_drew | apply blk_alloc)); refine blk_put (cs := #[.slice Ao35 t158.length co35, .bool t161, .bool x149002_6, .int .i64 x149003_6]) ?_ 2 _ rfl; (with_reducible repeat (first | apply blk_drewN | apply blk_drew | apply blk_alloc)); refine blk_put (cs := #[.slice Ao35 t158.length co35, .bool x149001_6, .bool x149002_6, .int .i64 x149003_6]) ?_ 1 _ rfl; (with_reducible repeat (first | apply blk_drewN | apply blk_drew | apply blk_alloc)); refine blk_put (cs := #[.slice Ao33 x149000_6.length co33, .bool x149001_6, .bool x149002_6, .int .i64 x149003_6]) ?_ 0 _ rfl; (with_reducible repeat (first | apply blk_drewN | apply blk_drew | apply blk_alloc)); exact BK148.out))⟩; have n3_ : Aside0 (Below w.heap.size w w37) := ⟨(by rw [hw]; exact (by repeat (first | exact HB.out | apply below_alloc | apply pw_below_drewN | apply below_drew1 | refine below_set ?_ GE148.out)))⟩; clear hw; clear HO_149000; clear HO160; clear BK148; clear HB; have HO_149000 := n0_; have HO160 := n1_; have BK148 := n2_; have HB := n3_; clear n0_ n1_ n2_ n3_; have hcz38_0 : w37.cell? ⟨gb148, 0, none⟩ = some (.slice Ao35 t158.length co35) := (blk_cell BK148.out 0).trans rfl; have hcz38_1 : w37.cell? ⟨gb148, 1, none⟩ = some (.bool t161) := (blk_cell BK148.out 1).trans rfl; have hcz38_2 : w37.cell? ⟨gb148, 2, none⟩ = some (.bool t162) := (blk_cell BK148.out 2).trans rfl; have hcz38_3 : w37.cell? ⟨gb148, 3, none⟩ = some (.int .i64 t163) := (blk_cell BK148.out 3).trans rfl; have hfz38_0 := blk_frozen BK148.out 0; have hfz38_1 := blk_frozen BK148.out 1; have hfz38_2 := blk_frozen BK148.out 2; have hfz38_3 := blk_frozen BK148.out 3) | ((with_reducible refine gate_callee (f := 17) rfl ?_); refine goesL_ (some 59) rfl rfl Try.func17 (by kernel_rfl) rfl #[.agg #[.slice Ao35 t158.length co35, .bool t161, .bool t162, .int .i64 t163], .int .i64 ji27, .agg #[.int .i64 0, .string (⟨#[]⟩ : ByteArray), .string (⟨#[]⟩ : ByteArray), .int .i64 0]] rfl (by (try simp only [List.map_toArray, List.map_cons, List.map_nil]); first | done | (simp only [hji27]; rfl) | rfl | (simp only [List.length_drop, List.length_take]; rfl)) ?_; (with_reducible refine (nand_Erase.calls (fun k_ => k_ ≠ gb148) _ _ t158 t161 t162 t163 ji27 0 (⟨#[]⟩ : ByteArray) (⟨#[]⟩ : ByteArray) 0 t164 t167 t168 t169 t170 _ ?side1 A26.out).mono ?_); (case side1 => exact HO160.out); rintro e w39 ⟨v165, rfl, ho0, hb⟩; refine ⟨_, rfl, ?_⟩; have n0_ := Aside0.mk (Kd.V_below (by (with_reducible repeat (first | apply Kd.V_alloc | apply Kd.V_drewN | apply Kd.V_drew)); exact HO_149000.out) hb); have n1_ := Aside0.mk (Kd.V_below (by (with_reducible repeat (first | apply Kd.V_alloc | apply Kd.V_drewN | apply Kd.V_drew)); exact HO160.out) hb); have n2_ := Aside0.mk (Kd.V_lower (Kd.V_mono (ok' := fun k_ => k_ ≠ gb148) ho0 (fun k_ hk_ => Or.elim hk_ (fun hs_ => hs_) (fun hn_ => (Kd.freshB (g := gb148) (o := .cells #[.slice Ao35 t158.length co35, .bool t161, .bool t162, .int .i64 t163] 27 (0, 0)) (by (with_reducible repeat (first | apply blk_drewN | apply blk_drew | apply blk_alloc)); exact BK148.out) k_ hn_)))) (below_size (by repeat (first | exact HB.out | apply below_alloc | apply pw_below_drewN | apply below_drew1 | refine below_set ?_ GE148.out)))); have n3_ := Aside0.mk (blk_below (g := gb148) (o := .cells #[.slice Ao35 t158.length co35, .bool t161, .bool t162, .int .i64 t163] 27 (0, 0)) (by (with_reducible repeat (first | apply blk_drewN | apply blk_drew | apply blk_alloc)); exact BK148.out) hb); have n4_ := Aside0.mk (below_step (by repeat (first | exact HB.out | apply below_alloc | apply pw_below_drewN | apply below_drew1 | refine below_set ?_ GE148.out)) hb); clear HO_149000; clear HO160; clear BK148; clear HB; have HO_149000 := n0_; have HO160 := n1_; have HO166 := n2_; have BK148 := n3_; have HB := n4_; clear n0_ n1_ n2_ n3_ n4_; (try clear hb); (try clear hb2); (try clear hk); (try clear hi); (try clear ho0)) | ((with_reducible refine gate_dst (N := 12) rfl ?_); refine box_event ?hg (N := 12) ?hd (cs := #[.slice none 0 0, .bool false, .bool false, .int .i64 0]) (t := 27) ?hr ?_; (case hd => rfl); (case hg => rfl); (case hr => first | (go_simp; done) | (go_simp; rfl)); intro gb171 hg w40 hbox hb; have n0_ := Aside0.mk (Kd.V_below (Kd.V_elderB (by (with_reducible repeat (first | apply Kd.V_alloc | apply Kd.V_drewN | apply Kd.V_drew)); exact HO_149000.out) gb171 (Nat.le_of_eq hg.symm)) hb); have n1_ := Aside0.mk (Kd.V_below (Kd.V_elderB (by (with_reducible repeat (first | apply Kd.V_alloc | apply Kd.V_drewN | apply Kd.V_drew)); exact HO160.out) gb171 (Nat.le_of_eq hg.symm)) hb); have n2_ := Aside0.mk (Kd.V_below (Kd.V_elderB (by (with_reducible repeat (first | apply Kd.V_alloc | apply Kd.V_drewN | apply Kd.V_drew)); exact HO166.out) gb171 (Nat.le_of_eq hg.symm)) hb); have n3_ := Aside0.mk (blk_below (g := gb148) (o := .cells #[.slice Ao35 t158.length co35, .bool t161, .bool t162, .int .i64 t163] 27 (0, 0)) (by (with_reducible repeat (first | apply blk_drewN | apply blk_drew | apply blk_alloc)); exact BK148.out) hb); have n4_ := Aside0.mk (below_step (by repeat (first | exact HB.out | apply below_alloc | apply pw_below_drewN | apply below_drew1 | refine below_set ?_ GE148.out)) hb); have n5_ := Aside0.mk (hbox); have n6_ := Aside0.mk ((by rw [hg]; exact (below_size (by repeat (first | exact HB.out | apply below_alloc | apply pw_below_drewN | apply below_drew1 | refine below_set ?_ GE148.out))) : w.heap.size ≤ gb171)); have n7_ := Aside0.mk ((by rw [hg]; exact (below_size (by repeat (first | exact HB.out | apply below_alloc | apply pw_below_drewN | apply below_drew1 | refine below_set ?_ GE148.out))) : w.heap.size ≤ gb171)); have n8_ := Aside0.mk ((by rw [hg]; exact Nat.ne_of_lt (blk_lt (g := gb148) (o := .cells #[.slice Ao35 t158.length co35, .bool t161, .bool t162, .int .i64 t163] 27 (0, 0)) (by (with_reducible repeat (first | apply blk_drewN | apply blk_drew | apply blk_alloc)); exact BK148.out)) : gb148 ≠ gb171)); have n9_ := Aside0.mk ((by rw [hg]; exact Nat.ne_of_gt (blk_lt (g := gb148) (o := .cells #[.slice Ao35 t158.length co35, .bool t161, .bool t162, .int .i64 t163] 27 (0, 0)) (by (with_reducible repeat (first | apply blk_drewN | apply blk_drew | apply blk_alloc)); exact BK148.out)) : gb171 ≠ gb148)); clear HO_149000; clear HO160; clear HO166; clear BK148; clear HB; have HO_149000 := n0_; have HO160 := n1_; have HO166 := n2_; have BK148 := n3_; have HB := n4_; have BK171 := n5_; have GW171 := n6_; have GE171 := n7_; have NB148_171 := n8_; have NB171_148 := n9_; clear n0_ n1_ n2_ n3_ n4_ n5_ n6_ n7_ n8_ n9_; clear hb hbox hg; obtain ⟨Ao41, co41, eo41⟩ := Kd.V_slice HO166.out; subst eo41; have hnb42 := NB171_148.out; have hnc42 := NB148_171.out; have hcz43_0 : w40.cell? ⟨gb171, 0, none⟩ = some (.slice none 0 0) := (blk_cell BK171.out 0).trans rfl; have hcz43_1 : w40.cell? ⟨gb171, 1, none⟩ = some (.bool false) := (blk_cell BK171.out 1).trans rfl; have hcz43_2 : w40.cell? ⟨gb171, 2, none⟩ = some (.bool false) := (blk_cell BK171.out 2).trans rfl; have hcz43_3 : w40.cell? ⟨gb171, 3, none⟩ = some (.int .i64 0) := (blk_cell BK171.out 3).trans rfl; have hfz43_0 := blk_frozen BK171.out 0; have hfz43_1 := blk_frozen BK171.out 1; have hfz43_2 := blk_frozen BK171.out 2; have hfz43_3 := blk_frozen BK171.out 3) | ((with_reducible refine gate_store (t := 27) (p := 12) rfl ?_); refine store_event (t := 27) (p := 12) (v := ?vo_w44) (w1 := ((((w40.setCell ⟨gb171, 0, none⟩ (.slice Ao41 t164.length co41)).setCell ⟨gb171, 1, none⟩ (.bool t167)).setCell ⟨gb171, 2, none⟩ (.bool t168)).setCell ⟨gb171, 3, none⟩ (.int .i64 t169))) ?hg ?ho ?hn ?hr ?_; (case ho => rfl); (case hg => rfl); (case hn => rfl); (case hr => first | (go_simp; done) | (go_simp; rfl)); intro w44 hw; have n0_ : Aside0 (Kd.V k44 44 w44 w.heap.size (fun k_ => k_ ≠ gb148 ∧ k_ ≠ gb171) (.slice Ao33 x149000_6.length co33) x149000_6) := ⟨(by rw [hw]; exact (by (with_reducible repeat (first | apply Kd.V_alloc | apply Kd.V_drewN | apply Kd.V_drew)); exact Kd.V_mono (Kd.V_far (p := ⟨gb171, 3, none⟩) (Kd.V_far (p := ⟨gb171, 2, none⟩) (Kd.V_far (p := ⟨gb171, 1, none⟩) (Kd.V_far (p := ⟨gb171, 0, none⟩) (Kd.V_mono HO_149000.out (fun k_ hk => (⟨hk, hk.2⟩ : _ ∧ k_ ≠ gb171))) (fun _ hk => hk.2) _) (fun _ hk => hk.2) (.bool t167)) (fun _ hk => hk.2) (.bool t168)) (fun _ hk => hk.2) _) (fun _ hk => ⟨hk.1.1, hk.1.2⟩)))⟩; have n1_ : Aside0 (Kd.V k44 44 w44 w.heap.size (fun k_ => k_ ≠ gb148 ∧ k_ ≠ gb171) (.slice Ao35 t158.length co35) t158) := ⟨(by rw [hw]; exact (by (with_reducible repeat (first | apply Kd.V_alloc | apply Kd.V_drewN | apply Kd.V_drew)); exact Kd.V_mono (Kd.V_far (p := ⟨gb171, 3, none⟩) (Kd.V_far (p := ⟨gb171, 2, none⟩) (Kd.V_far (p := ⟨gb171, 1, none⟩) (Kd.V_far (p := ⟨gb171, 0, none⟩) (Kd.V_mono HO160.out (fun k_ hk => (⟨hk, hk.2⟩ : _ ∧ k_ ≠ gb171))) (fun _ hk => hk.2) _) (fun _ hk => hk.2) (.bool t167)) (fun _ hk => hk.2) (.bool t168)) (fun _ hk => hk.2) _) (fun _ hk => ⟨hk.1.1, hk.1.2⟩)))⟩; have n2_ : Aside0 (Kd.V k44 44 w44 w.heap.size (fun k_ => k_ ≠ gb148 ∧ k_ ≠ gb171) (.slice Ao41 t164.length co41) t164) := ⟨(by rw [hw]; exact (by (with_reducible repeat (first | apply Kd.V_alloc | apply Kd.V_drewN | apply Kd.V_drew)); exact Kd.V_mono (Kd.V_far (p := ⟨gb171, 3, none⟩) (Kd.V_far (p := ⟨gb171, 2, none⟩) (Kd.V_far (p := ⟨gb171, 1, none⟩) (Kd.V_far (p := ⟨gb171, 0, none⟩) (Kd.V_mono HO166.out (fun k_ hk => (⟨hk, hk.2⟩ : _ ∧ k_ ≠ gb171))) (fun _ hk => hk.2) _) (fun _ hk => hk.2) (.bool t167)) (fun _ hk => hk.2) (.bool t168)) (fun _ hk => hk.2) _) (fun _ hk => ⟨hk.1.1, hk.1.2⟩)))⟩; have n3_ : Aside0 (w44.heap[gb148]? = some (.cells #[.slice Ao35 t158.length co35, .bool t161, .bool t162, .int .i64 t163] 27 (0, 0))) := ⟨(by rw [hw]; exact (by (with_reducible repeat (first | apply blk_drewN | apply blk_drew | apply blk_alloc)); refine blk_far ?_ NB148_171.out _; (with_reducible repeat (first | apply blk_drewN | apply blk_drew | apply blk_alloc)); refine blk_far ?_ NB148_171.out _; (with_reducible repeat (first | apply blk_drewN | apply blk_drew | apply blk_alloc)); refine blk_far ?_ NB148_171.out _; (with_reducible repeat (first | apply blk_drewN | apply blk_drew | apply blk_alloc)); refine blk_far ?_ NB148_171.out _; (with_reducible repeat (first | apply blk_drewN | apply blk_drew | apply blk_alloc)); exact BK148.out))⟩; have n4_ : Aside0 (w44.heap[gb171]? = some (.cells #[.slice Ao41 t164.length co41, .bool t167, .bool t168, .int .i64 t169] 27 (0, 0))) := ⟨(by rw [hw]; exact (by (with_reducible repeat (first | apply blk_drewN | apply blk_drew | apply blk_alloc)); refine blk_put (cs := #[.slice Ao41 t164.length co41, .bool t167, .bool t168, .int .i64 0]) ?_ 3 _ rfl; (with_reducible repeat (first | apply blk_drewN | apply blk_drew | apply blk_alloc)); refine blk_put (cs := #[.slice Ao41 t164.length co41, .bool t167, .bool false, .int .i64 0]) ?_ 2 _ rfl; (with_reducible repeat (first | apply blk_drewN | apply blk_drew | apply blk_alloc)); refine blk_put (cs := #[.slice Ao41 t164.length co41, .bool false, .bool false, .int .i64 0]) ?_ 1 _ rfl; (with_reducible repeat (first | apply blk_drewN | apply blk_drew | apply blk_alloc)); refine blk_put (cs := #[.slice none 0 0, .bool false, .bool false, .int .i64 0]) ?_ 0 _ rfl; (with_reducible repeat (first | apply blk_drewN | apply blk_drew | apply blk_alloc)); exact BK171.out))⟩; have n5_ : Aside0 (Below w.heap.size w w44) := ⟨(by rw [hw]; exact (by repeat (first | (with_reducible first | exact HB.out | apply below_alloc | apply pw_below_drewN | apply below_drew1 | refine below_set ?_ GE148.out | refine below_set ?_ GE171.out) | exact HB.out)))⟩; clear hw; clear HO_149000; clear HO160; clear HO166; clear BK148; clear BK171; clear HB; have HO_149000 := n0_; have HO160 := n1_; have HO166 := n2_; have BK148 := n3_; have BK171 := n4_; have HB := n5_; clear n0_ n1_ n2_ n3_ n4_ n5_; have hcz45_0 : w44.cell? ⟨gb148, 0, none⟩ = some (.slice Ao35 t158.length co35) := (blk_cell BK148.out 0).trans rfl; have hcz45_1 : w44.cell? ⟨gb148, 1, none⟩ = some (.bool t161) := (blk_cell BK148.out 1).trans rfl; have hcz45_2 : w44.cell? ⟨gb148, 2, none⟩ = some (.bool t162) := (blk_cell BK148.out 2).trans rfl; have hcz45_3 : w44.cell? ⟨gb148, 3, none⟩ = some (.int .i64 t163) := (blk_cell BK148.out 3).trans rfl; have hfz45_0 := blk_frozen BK148.out 0; have hfz45_1 := blk_frozen BK148.out 1; have hfz45_2 := blk_frozen BK148.out 2; have hfz45_3 := blk_frozen BK148.out 3; have p172 : 0 ≤ ((ji27) : Int) := of_decide_eq_true (by first | (with_reducible assumption) | assumption); have q172 : (ji27) < (t158.length : Int) := of_decide_eq_true (by first | (with_reducible assumption) | assumption); obtain ⟨ad172, A172_0, c172_0, e172, hx172_0, hx172_1, hx172_2, hx172_3, hl172_0, hi172_0⟩ := at_T44 (Kd.V_reads' HO160.out).2.2 (ji27) p172 q172; (try rw [← Nbq30.out] at hx172_3); cases e172; obtain ⟨ce172, hce172, hMe172, hcc172⟩ := Kd.V_get HO160.out z44 (ji27) p172 (by first | exact q172 | exact of_decide_eq_true (by first | (with_reducible assumption) | assumption) | (have e_ := (Kd.V_reads' HO160.out).1; omega)); obtain ⟨ua172_0, uc172_0, rfl, ul172_0, ge172_0⟩ := k44_openF hMe172; have hv172_0 := hcc172 0 _ rfl; rw [Nat.add_zero] at hv172_0; replace hv172_0 := Option.some.inj (hv172_0.symm.trans hx172_0); injection hv172_0 with hva_ hvn_ hvc_; rw [hva_] at ge172_0; rw [hvc_] at ul172_0; have HL172_0 := Aside0.mk (show Kd.V k46 46 _ w.heap.size _ _ ((rd_T44 t158 (ji27)).f0) from Kd.V_mk ul172_0 ge172_0); clear hva_ hvn_ hvc_ ge172_0 ul172_0; clear hcc172 hce172; have HR172_0 := Aside0.mk hi172_0; have HC172_0 := Aside0.mk hl172_0; clear hi172_0 hl172_0; replace p172 := eq_true p172; replace q172 := eq_true q172))
       go_ret
       exact ⟨by first | rfl | (simp [errW_none, errW_some] <;> rfl) | (simp only [← hji27]; first | rfl | (simp [errW_none, errW_some] <;> rfl)) | (simp [*, errW_none, errW_some] <;> rfl), by repeat (first | (with_reducible first | exact HB.out | apply below_alloc | apply pw_below_drewN | apply below_drew1 | refine below_set ?_ GE148.out | refine below_set ?_ GE171.out) | exact HB.out)⟩
      ·
       replace c31 := Bool.eq_false_iff.mpr c31
       subst c31
       have H1 : (clinkerlaw05_NandFresh.l1 kj6 a1 true ji27 t170 0 t158 t161 t162 t163 t164 t167 t168 t169) = some r := by rw [if_neg (show ¬ (false = true) by decide)] at H; exact H
       clear H
       have H := H1
       clear H1
       have H' := Aside0.mk H
       clear H
       have hcz46_0 : wc.cell? ⟨gb148, 0, none⟩ = some (u149000) := (blk_cell BK148.out 0).trans rfl
       have hcz46_1 : wc.cell? ⟨gb148, 1, none⟩ = some (.bool x149001_6) := (blk_cell BK148.out 1).trans rfl
       have hcz46_2 : wc.cell? ⟨gb148, 2, none⟩ = some (.bool x149002_6) := (blk_cell BK148.out 2).trans rfl
       have hcz46_3 : wc.cell? ⟨gb148, 3, none⟩ = some (.int .i64 x149003_6) := (blk_cell BK148.out 3).trans rfl
       have hfz46_0 := blk_frozen BK148.out 0
       have hfz46_1 := blk_frozen BK148.out 1
       have hfz46_2 := blk_frozen BK148.out 2
       have hfz46_3 := blk_frozen BK148.out 3
       obtain ⟨Ao47, co47, eo47⟩ := Kd.V_slice HO_149000.out
       subst eo47
       go_wp2_with (first | ((with_reducible refine gate_callee (f := 16) rfl ?_); refine goesL_ (some 51) rfl rfl Try.func16 (by kernel_rfl) rfl #[.agg #[.slice Ao47 x149000_6.length co47, .bool x149001_6, .bool x149002_6, .int .i64 x149003_6]] rfl (by (try simp only [List.map_toArray, List.map_cons, List.map_nil]); first | done | rfl | (simp only [List.length_drop, List.length_take]; rfl)) ?_; (with_reducible refine (clinkerref05_On.calls _ _ x149000_6 x149001_6 x149002_6 x149003_6 t158 t161 t162 t163 _ ?side1 ?side2 A25.out).mono ?_); (case side1 => repeat (first | exact (Kd.V_reads' HO_149000.out).2.2 | (with_reducible refine Kd.C_alloc ?_ _) | (with_reducible refine Kd.C_drewN ?_ _) | (with_reducible refine Kd.C_drew ?_))); (case side2 => exact (Kd.V_reads' HO_149000.out).2.1); rintro e w48 ⟨v159, rfl, ho0, hb⟩; refine ⟨_, rfl, ?_⟩; have n0_ := Aside0.mk (Kd.V_below (by (with_reducible repeat (first | apply Kd.V_alloc | apply Kd.V_drewN | apply Kd.V_drew)); exact HO_149000.out) hb); have n1_ := Aside0.mk (Kd.V_lower (Kd.V_mono (ok' := fun k_ => k_ ≠ gb148) ho0 (fun k_ hk_ => (Kd.freshB (g := gb148) (o := .cells #[.slice Ao47 x149000_6.length co47, .bool x149001_6, .bool x149002_6, .int .i64 x149003_6] 27 (0, 0)) (by (with_reducible repeat (first | apply blk_drewN | apply blk_drew | apply blk_alloc)); exact BK148.out) k_ hk_))) (below_size (by repeat (first | exact HB.out | apply below_alloc | apply pw_below_drewN | apply below_drew1 | refine below_set ?_ GE148.out)))); have n2_ := Aside0.mk (blk_below (g := gb148) (o := .cells #[.slice Ao47 x149000_6.length co47, .bool x149001_6, .bool x149002_6, .int .i64 x149003_6] 27 (0, 0)) (by (with_reducible repeat (first | apply blk_drewN | apply blk_drew | apply blk_alloc)); exact BK148.out) hb); have n3_ := Aside0.mk (below_step (by repeat (first | exact HB.out | apply below_alloc | apply pw_below_drewN | apply below_drew1 | refine below_set ?_ GE148.out)) hb); clear HO_149000; clear BK148; clear HB; have HO_149000 := n0_; have HO160 := n1_; have BK148 := n2_; have HB := n3_; clear n0_ n1_ n2_ n3_; (try clear hb); (try clear hb2); (try clear hk); (try clear hi); (try clear ho0); obtain ⟨Ao49, co49, eo49⟩ := Kd.V_slice HO160.out; subst eo49; have hcz50_0 : w48.cell? ⟨gb148, 0, none⟩ = some (.slice Ao47 x149000_6.length co47) := (blk_cell BK148.out 0).trans rfl; have hcz50_1 : w48.cell? ⟨gb148, 1, none⟩ = some (.bool x149001_6) := (blk_cell BK148.out 1).trans rfl; have hcz50_2 : w48.cell? ⟨gb148, 2, none⟩ = some (.bool x149002_6) := (blk_cell BK148.out 2).trans rfl; have hcz50_3 : w48.cell? ⟨gb148, 3, none⟩ = some (.int .i64 x149003_6) := (blk_cell BK148.out 3).trans rfl; have hfz50_0 := blk_frozen BK148.out 0; have hfz50_1 := blk_frozen BK148.out 1; have hfz50_2 := blk_frozen BK148.out 2; have hfz50_3 := blk_frozen BK148.out 3) | ((with_reducible refine gate_store (t := 27) (p := 8) rfl ?_); refine store_event (t := 27) (p := 8) (v := ?vo_w51) (w1 := ((((w48.setCell ⟨gb148, 0, none⟩ (.slice Ao49 t158.length co49)).setCell ⟨gb148, 1, none⟩ (.bool t161)).setCell ⟨gb148, 2, none⟩ (.bool t162)).setCell ⟨gb148, 3, none⟩ (.int .i64 t163))) ?hg ?ho ?hn ?hr ?_; (case ho => rfl); (case hg => rfl); (case hn => rfl); (case hr => first | (go_simp; done) | (go_simp; rfl)); intro w51 hw; have n0_ : Aside0 (Kd.V k44 44 w51 w.heap.size (fun k_ => k_ ≠ gb148) (.slice Ao47 x149000_6.length co47) x149000_6) := ⟨(by rw [hw]; exact (by (with_reducible repeat (first | apply Kd.V_alloc | apply Kd.V_drewN | apply Kd.V_drew)); exact Kd.V_mono (Kd.V_far (p := ⟨gb148, 3, none⟩) (Kd.V_far (p := ⟨gb148, 2, none⟩) (Kd.V_far (p := ⟨gb148, 1, none⟩) (Kd.V_far (p := ⟨gb148, 0, none⟩) (Kd.V_mono HO_149000.out (fun k_ hk => (⟨hk, hk⟩ : _ ∧ k_ ≠ gb148))) (fun _ hk => hk.2) _) (fun _ hk => hk.2) (.bool t161)) (fun _ hk => hk.2) (.bool t162)) (fun _ hk => hk.2) _) (fun _ hk => hk.1)))⟩; have n1_ : Aside0 (Kd.V k44 44 w51 w.heap.size (fun k_ => k_ ≠ gb148) (.slice Ao49 t158.length co49) t158) := ⟨(by rw [hw]; exact (by (with_reducible repeat (first | apply Kd.V_alloc | apply Kd.V_drewN | apply Kd.V_drew)); exact Kd.V_mono (Kd.V_far (p := ⟨gb148, 3, none⟩) (Kd.V_far (p := ⟨gb148, 2, none⟩) (Kd.V_far (p := ⟨gb148, 1, none⟩) (Kd.V_far (p := ⟨gb148, 0, none⟩) (Kd.V_mono HO160.out (fun k_ hk => (⟨hk, hk⟩ : _ ∧ k_ ≠ gb148))) (fun _ hk => hk.2) _) (fun _ hk => hk.2) (.bool t161)) (fun _ hk => hk.2) (.bool t162)) (fun _ hk => hk.2) _) (fun _ hk => hk.1)))⟩; have n2_ : Aside0 (w51.heap[gb148]? = some (.cells #[.slice Ao49 t158.length co49, .bool t161, .bool t162, .int .i64 t163] 27 (0, 0))) := ⟨(by rw [hw]; exact (by (with_reducible repeat (first | apply blk_drewN | apply blk_drew | apply blk_alloc)); refine blk_put (cs := #[.slice Ao49 t158.length co49, .bool t161, .bool t162, .int .i64 x149003_6]) ?_ 3 _ rfl; (with_reducible repeat (first | apply blk_drewN | apply blk_drew | apply blk_alloc)); refine blk_put (cs := #[.slice Ao49 t158.length co49, .bool t161, .bool x149002_6, .int .i64 x149003_6]) ?_ 2 _ rfl; (with_reducible repeat (first | apply blk_drewN | apply blk_drew | apply blk_alloc)); refine blk_put (cs := #[.slice Ao49 t158.length co49, .bool x149001_6, .bool x149002_6, .int .i64 x149003_6]) ?_ 1 _ rfl; (with_reducible repeat (first | apply blk_drewN | apply blk_drew | apply blk_alloc)); refine blk_put (cs := #[.slice Ao47 x149000_6.length co47, .bool x149001_6, .bool x149002_6, .int .i64 x149003_6]) ?_ 0 _ rfl; (with_reducible repeat (first | apply blk_drewN | apply blk_drew | apply blk_alloc)); exact BK148.out))⟩; have n3_ : Aside0 (Below w.heap.size w w51) := ⟨(by rw [hw]; exact (by repeat (first | exact HB.out | apply below_alloc | apply pw_below_drewN | apply below_drew1 | refine below_set ?_ GE148.out)))⟩; clear hw; clear HO_149000; clear HO160; clear BK148; clear HB; have HO_149000 := n0_; have HO160 := n1_; have BK148 := n2_; have HB := n3_; clear n0_ n1_ n2_ n3_; have hcz52_0 : w51.cell? ⟨gb148, 0, none⟩ = some (.slice Ao49 t158.length co49) := (blk_cell BK148.out 0).trans rfl; have hcz52_1 : w51.cell? ⟨gb148, 1, none⟩ = some (.bool t161) := (blk_cell BK148.out 1).trans rfl; have hcz52_2 : w51.cell? ⟨gb148, 2, none⟩ = some (.bool t162) := (blk_cell BK148.out 2).trans rfl; have hcz52_3 : w51.cell? ⟨gb148, 3, none⟩ = some (.int .i64 t163) := (blk_cell BK148.out 3).trans rfl; have hfz52_0 := blk_frozen BK148.out 0; have hfz52_1 := blk_frozen BK148.out 1; have hfz52_2 := blk_frozen BK148.out 2; have hfz52_3 := blk_frozen BK148.out 3) | ((with_reducible refine gate_callee (f := 17) rfl ?_); refine goesL_ (some 59) rfl rfl Try.func17 (by kernel_rfl) rfl #[.agg #[.slice Ao49 t158.length co49, .bool t161, .bool t162, .int .i64 t163], .int .i64 ji27, .agg #[.int .i64 0, .string (⟨#[]⟩ : ByteArray), .string (⟨#[]⟩ : ByteArray), .int .i64 0]] rfl (by (try simp only [List.map_toArray, List.map_cons, List.map_nil]); first | done | (simp only [hji27]; rfl) | rfl | (simp only [List.length_drop, List.length_take]; rfl)) ?_; (with_reducible refine (nand_Erase.calls (fun k_ => k_ ≠ gb148) _ _ t158 t161 t162 t163 ji27 0 (⟨#[]⟩ : ByteArray) (⟨#[]⟩ : ByteArray) 0 t164 t167 t168 t169 t170 _ ?side1 A26.out).mono ?_); (case side1 => exact HO160.out); rintro e w53 ⟨v165, rfl, ho0, hb⟩; refine ⟨_, rfl, ?_⟩; have n0_ := Aside0.mk (Kd.V_below (by (with_reducible repeat (first | apply Kd.V_alloc | apply Kd.V_drewN | apply Kd.V_drew)); exact HO_149000.out) hb); have n1_ := Aside0.mk (Kd.V_below (by (with_reducible repeat (first | apply Kd.V_alloc | apply Kd.V_drewN | apply Kd.V_drew)); exact HO160.out) hb); have n2_ := Aside0.mk (Kd.V_lower (Kd.V_mono (ok' := fun k_ => k_ ≠ gb148) ho0 (fun k_ hk_ => Or.elim hk_ (fun hs_ => hs_) (fun hn_ => (Kd.freshB (g := gb148) (o := .cells #[.slice Ao49 t158.length co49, .bool t161, .bool t162, .int .i64 t163] 27 (0, 0)) (by (with_reducible repeat (first | apply blk_drewN | apply blk_drew | apply blk_alloc)); exact BK148.out) k_ hn_)))) (below_size (by repeat (first | exact HB.out | apply below_alloc | apply pw_below_drewN | apply below_drew1 | refine below_set ?_ GE148.out)))); have n3_ := Aside0.mk (blk_below (g := gb148) (o := .cells #[.slice Ao49 t158.length co49, .bool t161, .bool t162, .int .i64 t163] 27 (0, 0)) (by (with_reducible repeat (first | apply blk_drewN | apply blk_drew | apply blk_alloc)); exact BK148.out) hb); have n4_ := Aside0.mk (below_step (by repeat (first | exact HB.out | apply below_alloc | apply pw_below_drewN | apply below_drew1 | refine below_set ?_ GE148.out)) hb); clear HO_149000; clear HO160; clear BK148; clear HB; have HO_149000 := n0_; have HO160 := n1_; have HO166 := n2_; have BK148 := n3_; have HB := n4_; clear n0_ n1_ n2_ n3_ n4_; (try clear hb); (try clear hb2); (try clear hk); (try clear hi); (try clear ho0)) | ((with_reducible refine gate_dst (N := 12) rfl ?_); refine box_event ?hg (N := 12) ?hd (cs := #[.slice none 0 0, .bool false, .bool false, .int .i64 0]) (t := 27) ?hr ?_; (case hd => rfl); (case hg => rfl); (case hr => first | (go_simp; done) | (go_simp; rfl)); intro gb171 hg w54 hbox hb; have n0_ := Aside0.mk (Kd.V_below (Kd.V_elderB (by (with_reducible repeat (first | apply Kd.V_alloc | apply Kd.V_drewN | apply Kd.V_drew)); exact HO_149000.out) gb171 (Nat.le_of_eq hg.symm)) hb); have n1_ := Aside0.mk (Kd.V_below (Kd.V_elderB (by (with_reducible repeat (first | apply Kd.V_alloc | apply Kd.V_drewN | apply Kd.V_drew)); exact HO160.out) gb171 (Nat.le_of_eq hg.symm)) hb); have n2_ := Aside0.mk (Kd.V_below (Kd.V_elderB (by (with_reducible repeat (first | apply Kd.V_alloc | apply Kd.V_drewN | apply Kd.V_drew)); exact HO166.out) gb171 (Nat.le_of_eq hg.symm)) hb); have n3_ := Aside0.mk (blk_below (g := gb148) (o := .cells #[.slice Ao49 t158.length co49, .bool t161, .bool t162, .int .i64 t163] 27 (0, 0)) (by (with_reducible repeat (first | apply blk_drewN | apply blk_drew | apply blk_alloc)); exact BK148.out) hb); have n4_ := Aside0.mk (below_step (by repeat (first | exact HB.out | apply below_alloc | apply pw_below_drewN | apply below_drew1 | refine below_set ?_ GE148.out)) hb); have n5_ := Aside0.mk (hbox); have n6_ := Aside0.mk ((by rw [hg]; exact (below_size (by repeat (first | exact HB.out | apply below_alloc | apply pw_below_drewN | apply below_drew1 | refine below_set ?_ GE148.out))) : w.heap.size ≤ gb171)); have n7_ := Aside0.mk ((by rw [hg]; exact (below_size (by repeat (first | exact HB.out | apply below_alloc | apply pw_below_drewN | apply below_drew1 | refine below_set ?_ GE148.out))) : w.heap.size ≤ gb171)); have n8_ := Aside0.mk ((by rw [hg]; exact Nat.ne_of_lt (blk_lt (g := gb148) (o := .cells #[.slice Ao49 t158.length co49, .bool t161, .bool t162, .int .i64 t163] 27 (0, 0)) (by (with_reducible repeat (first | apply blk_drewN | apply blk_drew | apply blk_alloc)); exact BK148.out)) : gb148 ≠ gb171)); have n9_ := Aside0.mk ((by rw [hg]; exact Nat.ne_of_gt (blk_lt (g := gb148) (o := .cells #[.slice Ao49 t158.length co49, .bool t161, .bool t162, .int .i64 t163] 27 (0, 0)) (by (with_reducible repeat (first | apply blk_drewN | apply blk_drew | apply blk_alloc)); exact BK148.out)) : gb171 ≠ gb148)); clear HO_149000; clear HO160; clear HO166; clear BK148; clear HB; have HO_149000 := n0_; have HO160 := n1_; have HO166 := n2_; have BK148 := n3_; have HB := n4_; have BK171 := n5_; have GW171 := n6_; have GE171 := n7_; have NB148_171 := n8_; have NB171_148 := n9_; clear n0_ n1_ n2_ n3_ n4_ n5_ n6_ n7_ n8_ n9_; clear hb hbox hg; obtain ⟨Ao55, co55, eo55⟩ := Kd.V_slice HO166.out; subst eo55; have hnb56 := NB171_148.out; have hnc56 := NB148_171.out; have hcz57_0 : w54.cell? ⟨gb171, 0, none⟩ = some (.slice none 0 0) := (blk_cell BK171.out 0).trans rfl; have hcz57_1 : w54.cell? ⟨gb171, 1, none⟩ = some (.bool false) := (blk_cell BK171.out 1).trans rfl; have hcz57_2 : w54.cell? ⟨gb171, 2, none⟩ = some (.bool false) := (blk_cell BK171.out 2).trans rfl; have hcz57_3 : w54.cell? ⟨gb171, 3, none⟩ = some (.int .i64 0) := (blk_cell BK171.out 3).trans rfl; have hfz57_0 := blk_frozen BK171.out 0; have hfz57_1 := blk_frozen BK171.out 1; have hfz57_2 := blk_frozen BK171.out 2; have hfz57_3 := blk_frozen BK171.out 3) | ((with_reducible refine gate_store (t := 27) (p := 12) rfl ?_); refine store_event (t := 27) (p := 12) (v := ?vo_w58) (w1 := ((((w54.setCell ⟨gb171, 0, none⟩ (.slice Ao55 t164.length co55)).setCell ⟨gb171, 1, none⟩ (.bool t167)).setCell ⟨gb171, 2, none⟩ (.bool t168)).setCell ⟨gb171, 3, none⟩ (.int .i64 t169))) ?hg ?ho ?hn ?hr ?_; (case ho => rfl); (case hg => rfl); (case hn => rfl); (case hr => first | (go_simp; done) | (go_simp; rfl)); intro w58 hw; have n0_ : Aside0 (Kd.V k44 44 w58 w.heap.size (fun k_ => k_ ≠ gb148 ∧ k_ ≠ gb171) (.slice Ao47 x149000_6.length co47) x149000_6) := ⟨(by rw [hw]; exact (by (with_reducible repeat (first | apply Kd.V_alloc | apply Kd.V_drewN | apply Kd.V_drew)); exact Kd.V_mono (Kd.V_far (p := ⟨gb171, 3, none⟩) (Kd.V_far (p := ⟨gb171, 2, none⟩) (Kd.V_far (p := ⟨gb171, 1, none⟩) (Kd.V_far (p := ⟨gb171, 0, none⟩) (Kd.V_mono HO_149000.out (fun k_ hk => (⟨hk, hk.2⟩ : _ ∧ k_ ≠ gb171))) (fun _ hk => hk.2) _) (fun _ hk => hk.2) (.bool t167)) (fun _ hk => hk.2) (.bool t168)) (fun _ hk => hk.2) _) (fun _ hk => ⟨hk.1.1, hk.1.2⟩)))⟩; have n1_ : Aside0 (Kd.V k44 44 w58 w.heap.size (fun k_ => k_ ≠ gb148 ∧ k_ ≠ gb171) (.slice Ao49 t158.length co49) t158) := ⟨(by rw [hw]; exact (by (with_reducible repeat (first | apply Kd.V_alloc | apply Kd.V_drewN | apply Kd.V_drew)); exact Kd.V_mono (Kd.V_far (p := ⟨gb171, 3, none⟩) (Kd.V_far (p := ⟨gb171, 2, none⟩) (Kd.V_far (p := ⟨gb171, 1, none⟩) (Kd.V_far (p := ⟨gb171, 0, none⟩) (Kd.V_mono HO160.out (fun k_ hk => (⟨hk, hk.2⟩ : _ ∧ k_ ≠ gb171))) (fun _ hk => hk.2) _) (fun _ hk => hk.2) (.bool t167)) (fun _ hk => hk.2) (.bool t168)) (fun _ hk => hk.2) _) (fun _ hk => ⟨hk.1.1, hk.1.2⟩)))⟩; have n2_ : Aside0 (Kd.V k44 44 w58 w.heap.size (fun k_ => k_ ≠ gb148 ∧ k_ ≠ gb171) (.slice Ao55 t164.length co55) t164) := ⟨(by rw [hw]; exact (by (with_reducible repeat (first | apply Kd.V_alloc | apply Kd.V_drewN | apply Kd.V_drew)); exact Kd.V_mono (Kd.V_far (p := ⟨gb171, 3, none⟩) (Kd.V_far (p := ⟨gb171, 2, none⟩) (Kd.V_far (p := ⟨gb171, 1, none⟩) (Kd.V_far (p := ⟨gb171, 0, none⟩) (Kd.V_mono HO166.out (fun k_ hk => (⟨hk, hk.2⟩ : _ ∧ k_ ≠ gb171))) (fun _ hk => hk.2) _) (fun _ hk => hk.2) (.bool t167)) (fun _ hk => hk.2) (.bool t168)) (fun _ hk => hk.2) _) (fun _ hk => ⟨hk.1.1, hk.1.2⟩)))⟩; have n3_ : Aside0 (w58.heap[gb148]? = some (.cells #[.slice Ao49 t158.length co49, .bool t161, .bool t162, .int .i64 t163] 27 (0, 0))) := ⟨(by rw [hw]; exact (by (with_reducible repeat (first | apply blk_drewN | apply blk_drew | apply blk_alloc)); refine blk_far ?_ NB148_171.out _; (with_reducible repeat (first | apply blk_drewN | apply blk_drew | apply blk_alloc)); refine blk_far ?_ NB148_171.out _; (with_reducible repeat (first | apply blk_drewN | apply blk_drew | apply blk_alloc)); refine blk_far ?_ NB148_171.out _; (with_reducible repeat (first | apply blk_drewN | apply blk_drew | apply blk_alloc)); refine blk_far ?_ NB148_171.out _; (with_reducible repeat (first | apply blk_drewN | apply blk_drew | apply blk_alloc)); exact BK148.out))⟩; have n4_ : Aside0 (w58.heap[gb171]? = some (.cells #[.slice Ao55 t164.length co55, .bool t167, .bool t168, .int .i64 t169] 27 (0, 0))) := ⟨(by rw [hw]; exact (by (with_reducible repeat (first | apply blk_drewN | apply blk_drew | apply blk_alloc)); refine blk_put (cs := #[.slice Ao55 t164.length co55, .bool t167, .bool t168, .int .i64 0]) ?_ 3 _ rfl; (with_reducible repeat (first | apply blk_drewN | apply blk_drew | apply blk_alloc)); refine blk_put (cs := #[.slice Ao55 t164.length co55, .bool t167, .bool false, .int .i64 0]) ?_ 2 _ rfl; (with_reducible repeat (first | apply blk_drewN | apply blk_drew | apply blk_alloc)); refine blk_put (cs := #[.slice Ao55 t164.length co55, .bool false, .bool false, .int .i64 0]) ?_ 1 _ rfl; (with_reducible repeat (first | apply blk_drewN | apply blk_drew | apply blk_alloc)); refine blk_put (cs := #[.slice none 0 0, .bool false, .bool false, .int .i64 0]) ?_ 0 _ rfl; (with_reducible repeat (first | apply blk_drewN | apply blk_drew | apply blk_alloc)); exact BK171.out))⟩; have n5_ : Aside0 (Below w.heap.size w w58) := ⟨(by rw [hw]; exact (by repeat (first | (with_reducible first | exact HB.out | apply below_alloc | apply pw_below_drewN | apply below_drew1 | refine below_set ?_ GE148.out | refine below_set ?_ GE171.out) | exact HB.out)))⟩; clear hw; clear HO_149000; clear HO160; clear HO166; clear BK148; clear BK171; clear HB; have HO_149000 := n0_; have HO160 := n1_; have HO166 := n2_; have BK148 := n3_; have BK171 := n4_; have HB := n5_; clear n0_ n1_ n2_ n3_ n4_ n5_; have hcz59_0 : w58.cell? ⟨gb148, 0, none⟩ = some (.slice Ao49 t158.length co49) := (blk_cell BK148.out 0).trans rfl; have hcz59_1 : w58.cell? ⟨gb148, 1, none⟩ = some (.bool t161) := (blk_cell BK148.out 1).trans rfl; have hcz59_2 : w58.cell? ⟨gb148, 2, none⟩ = some (.bool t162) := (blk_cell BK148.out 2).trans rfl; have hcz59_3 : w58.cell? ⟨gb148, 3, none⟩ = some (.int .i64 t163) := (blk_cell BK148.out 3).trans rfl; have hfz59_0 := blk_frozen BK148.out 0; have hfz59_1 := blk_frozen BK148.out 1; have hfz59_2 := blk_frozen BK148.out 2; have hfz59_3 := blk_frozen BK148.out 3; have p172 : 0 ≤ ((ji27) : Int) := of_decide_eq_true (by first | (with_reducible assumption) | assumption); have q172 : (ji27) < (t158.length : Int) := of_decide_eq_true (by first | (with_reducible assumption) | assumption); obtain ⟨ad172, A172_0, c172_0, e172, hx172_0, hx172_1, hx172_2, hx172_3, hl172_0, hi172_0⟩ := at_T44 (Kd.V_reads' HO160.out).2.2 (ji27) p172 q172; (try rw [← Nbq30.out] at hx172_3); cases e172; obtain ⟨ce172, hce172, hMe172, hcc172⟩ := Kd.V_get HO160.out z44 (ji27) p172 (by first | exact q172 | exact of_decide_eq_true (by first | (with_reducible assumption) | assumption) | (have e_ := (Kd.V_reads' HO160.out).1; omega)); obtain ⟨ua172_0, uc172_0, rfl, ul172_0, ge172_0⟩ := k44_openF hMe172; have hv172_0 := hcc172 0 _ rfl; rw [Nat.add_zero] at hv172_0; replace hv172_0 := Option.some.inj (hv172_0.symm.trans hx172_0); injection hv172_0 with hva_ hvn_ hvc_; rw [hva_] at ge172_0; rw [hvc_] at ul172_0; have HL172_0 := Aside0.mk (show Kd.V k46 46 _ w.heap.size _ _ ((rd_T44 t158 (ji27)).f0) from Kd.V_mk ul172_0 ge172_0); clear hva_ hvn_ hvc_ ge172_0 ul172_0; clear hcc172 hce172; have HR172_0 := Aside0.mk hi172_0; have HC172_0 := Aside0.mk hl172_0; clear hi172_0 hl172_0; replace p172 := eq_true p172; replace q172 := eq_true q172))
       go_loopg [14] kj6 (fun kq v14 w' => ∃ (x14_2 : Int) (x172000_2 : List (S44)) (x172001_2 : Bool) (x172002_2 : Bool) (x172003_2 : Int) (u172000 : Value), v14 = .int .i64 x14_2 ∧ Aside0 (clinkerlaw05_NandFresh.l1 kq a1 true ji27 t170 x14_2 t158 t161 t162 t163 x172000_2 x172001_2 x172002_2 x172003_2 = some r) ∧ Aside0 (kq ≤ kj6) ∧ Aside0 (Kd.V k44 44 w' w.heap.size (fun k_ => k_ ≠ gb148 ∧ k_ ≠ gb171) (.slice (some ad172) t158.length co49) t158) ∧ Aside0 (Kd.V k44 44 w' w.heap.size (fun k_ => k_ ≠ gb148 ∧ k_ ≠ gb171) u172000 x172000_2) ∧ Aside0 (w'.heap[gb148]? = some (.cells #[(.slice (some ad172) t158.length co49), .bool t161, .bool t162, .int .i64 t163] 27 (0, 0))) ∧ Aside0 (w'.heap[gb171]? = some (.cells #[u172000, .bool x172001_2, .bool x172002_2, .int .i64 x172003_2] 27 (0, 0))) ∧ Aside0 (Below w.heap.size w w'))
       case atStart => exact ⟨(0), (t164), (t167), (t168), (t169), (.slice Ao55 t164.length co55), (by first | rfl | (simp; done) | (simp [*]; done)), H', ⟨Nat.le_refl _⟩, ⟨by (with_reducible repeat (first | apply Kd.V_alloc | apply Kd.V_drewN | apply Kd.V_drew)); exact HO160.out⟩, ⟨by (with_reducible repeat (first | apply Kd.V_alloc | apply Kd.V_drewN | apply Kd.V_drew)); exact HO166.out⟩, ⟨by (with_reducible repeat (first | apply blk_drewN | apply blk_drew | apply blk_alloc)); exact BK148.out⟩, ⟨by (with_reducible repeat (first | apply blk_drewN | apply blk_drew | apply blk_alloc)); exact BK171.out⟩, ⟨by repeat (first | (with_reducible first | exact HB.out | apply below_alloc | apply pw_below_drewN | apply below_drew1 | refine below_set ?_ GE148.out | refine below_set ?_ GE171.out) | exact HB.out)⟩⟩
       case round =>
        clear H'
        try clear c1
        try clear p1
        try clear q1
        try clear hx1
        try clear c2
        try clear p2
        try clear c3
        try clear q3
        try clear c4
        try clear c5
        try clear p6
        try clear c11
        try clear c13
        try clear c13b0
        try clear c14
        try clear c14b0
        try clear p14
        try clear q14
        try clear hx14
        try clear c15
        try clear c15b0
        try clear c16
        try clear c17
        try clear p17
        try clear q17
        try clear hx17
        try clear c28
        try clear c28b0
        try clear c29
        try clear c29b0
        try clear q30
        try clear c31
        try clear c42
        try clear c56
        try clear hcz12_0
        try clear hcz12_1
        try clear hcz12_2
        try clear hcz12_3
        try clear hcz32_0
        try clear hcz32_1
        try clear hcz32_2
        try clear hcz32_3
        try clear hcz36_0
        try clear hcz36_1
        try clear hcz36_2
        try clear hcz36_3
        try clear hcz38_0
        try clear hcz38_1
        try clear hcz38_2
        try clear hcz38_3
        try clear hcz43_0
        try clear hcz43_1
        try clear hcz43_2
        try clear hcz43_3
        try clear hcz45_0
        try clear hcz45_1
        try clear hcz45_2
        try clear hcz45_3
        try clear hcz46_0
        try clear hcz46_1
        try clear hcz46_2
        try clear hcz46_3
        try clear hcz50_0
        try clear hcz50_1
        try clear hcz50_2
        try clear hcz50_3
        try clear hcz52_0
        try clear hcz52_1
        try clear hcz52_2
        try clear hcz52_3
        try clear hcz57_0
        try clear hcz57_1
        try clear hcz57_2
        try clear hcz57_3
        try clear hcz59_0
        try clear hcz59_1
        try clear hcz59_2
        try clear hcz59_3
        try clear hfz12_0
        try clear hfz12_1
        try clear hfz12_2
        try clear hfz12_3
        try clear hfz32_0
        try clear hfz32_1
        try clear hfz32_2
        try clear hfz32_3
        try clear hfz36_0
        try clear hfz36_1
        try clear hfz36_2
        try clear hfz36_3
        try clear hfz38_0
        try clear hfz38_1
        try clear hfz38_2
        try clear hfz38_3
        try clear hfz43_0
        try clear hfz43_1
        try clear hfz43_2
        try clear hfz43_3
        try clear hfz45_0
        try clear hfz45_1
        try clear hfz45_2
        try clear hfz45_3
        try clear hfz46_0
        try clear hfz46_1
        try clear hfz46_2
        try clear hfz46_3
        try clear hfz50_0
        try clear hfz50_1
        try clear hfz50_2
        try clear hfz50_3
        try clear hfz52_0
        try clear hfz52_1
        try clear hfz52_2
        try clear hfz52_3
        try clear hfz57_0
        try clear hfz57_1
        try clear hfz57_2
        try clear hfz57_3
        try clear hfz59_0
        try clear hfz59_1
        try clear hfz59_2
        try clear hfz59_3
        try clear hx149_0
        try clear hx149_1
        try clear hx149_2
        try clear hx149_3
        try clear hx149_4
        try clear hx149_5
        try clear hx172_0
        try clear hx172_1
        try clear hx172_2
        try clear hx172_3
        try clear p1
        try clear p14
        try clear p149
        try clear p172
        try clear p2
        try clear p6
        try clear q1
        try clear q14
        try clear q149
        try clear q172
        obtain ⟨x14_2, x172000_2, x172001_2, x172002_2, x172003_2, u172000, rfl, HA, HK2, HO_149000, HO_172000, BK148, BK171, HB⟩ := hrel
        cases gk with
        | zero => exact absurd HA.out (by simp [clinkerlaw05_NandFresh.l1])
        | succ k2 =>
         have H := HA.out
         clear HA
         simp only [clinkerlaw05_NandFresh.l1] at H
         by_cases c60 : x14_2 < (wrap64 (1 + (Int.tmod (wrap64 (a1)) 5)))
         ·
          rw [if_pos c60] at H
          have c60b0 : decide (x14_2 < (wrap64 (1 + (Int.tmod (wrap64 (a1)) 5)))) = true := decide_eq_true c60
          clear c60
          replace H := Option.bind_eq_some_iff.mp H
          obtain ⟨⟨t173, t174, t175, t176⟩, A610, H⟩ := H
          replace H : ((nand_Program.f x172000_2 x172001_2 x172002_2 x172003_2 ji27 x14_2 false (⟨#[120]⟩ : ByteArray) (⟨#[]⟩ : ByteArray) 0 (⟨#[]⟩ : ByteArray) (⟨#[]⟩ : ByteArray) 0).bind fun bt178 => (if t176 = 0 then (if bt178.2.2.2.2 = 0 then (if t173 = true then (some false) else (clinkerlaw05_NandFresh.l1 k2 a1 true ji27 t170 (wrap64 (x14_2 + 1)) t158 t161 t162 t163 bt178.1 bt178.2.1 bt178.2.2.1 bt178.2.2.2.1)) else (some false)) else (some false))) = some r := H
          have A61 := Aside0.mk A610
          clear A610
          replace H := Option.bind_eq_some_iff.mp H
          obtain ⟨⟨t178, t181, t182, t183, t184⟩, A620, H⟩ := H
          replace H : (if t176 = 0 then (if t184 = 0 then (if t173 = true then (some false) else (clinkerlaw05_NandFresh.l1 k2 a1 true ji27 t170 (wrap64 (x14_2 + 1)) t158 t161 t162 t163 t178 t181 t182 t183)) else (some false)) else (some false)) = some r := H
          have A62 := Aside0.mk A620
          clear A620
          by_cases c63 : t176 = 0
          ·
           rw [if_pos c63] at H
           have c63b0 : (t176 == 0) = true := beq_iff_eq.mpr c63
           have c63b1 : (t176 != 0) = false := bne_eq_false_iff_eq.mpr c63
           clear c63
           by_cases c64 : t184 = 0
           ·
            rw [if_pos c64] at H
            have c64b0 : (t184 == 0) = true := beq_iff_eq.mpr c64
            have c64b1 : (t184 != 0) = false := bne_eq_false_iff_eq.mpr c64
            clear c64
            by_cases c65 : t173 = true
            ·
             subst c65
             have H1 : (some false) = some r := by rw [if_pos rfl] at H; exact H
             clear H
             have H := H1
             clear H1
             exact absurd (H.trans (congrArg some hrt.out)) (by simp)
            ·
             replace c65 := Bool.eq_false_iff.mpr c65
             subst c65
             have H1 : (clinkerlaw05_NandFresh.l1 k2 a1 true ji27 t170 (wrap64 (x14_2 + 1)) t158 t161 t162 t163 t178 t181 t182 t183) = some r := by rw [if_neg (show ¬ (false = true) by decide)] at H; exact H
             clear H
             have H := H1
             clear H1
             have H' := Aside0.mk H
             clear H
             have hnb84 := NB171_148.out
             have hnc84 := NB148_171.out
             have hcz85_0 : wr.cell? ⟨gb171, 0, none⟩ = some (u172000) := (blk_cell BK171.out 0).trans rfl
             have hcz85_1 : wr.cell? ⟨gb171, 1, none⟩ = some (.bool x172001_2) := (blk_cell BK171.out 1).trans rfl
             have hcz85_2 : wr.cell? ⟨gb171, 2, none⟩ = some (.bool x172002_2) := (blk_cell BK171.out 2).trans rfl
             have hcz85_3 : wr.cell? ⟨gb171, 3, none⟩ = some (.int .i64 x172003_2) := (blk_cell BK171.out 3).trans rfl
             have hfz85_0 := blk_frozen BK171.out 0
             have hfz85_1 := blk_frozen BK171.out 1
             have hfz85_2 := blk_frozen BK171.out 2
             have hfz85_3 := blk_frozen BK171.out 3
             obtain ⟨Ao86, co86, eo86⟩ := Kd.V_slice HO_172000.out
             subst eo86
             go_wp2_with (first | ((with_reducible refine gate_callee (f := 18) rfl ?_); refine goesL_ (some 85) rfl rfl Try.func18 (by kernel_rfl) rfl #[.agg #[.slice Ao86 x172000_2.length co86, .bool x172001_2, .bool x172002_2, .int .i64 x172003_2], .int .i64 ji27, .int .i64 x14_2] rfl (by (try simp only [List.map_toArray, List.map_cons, List.map_nil]); first | done | (simp only [hji27]; rfl) | rfl | (simp only [List.length_drop, List.length_take]; rfl)) ?_; (with_reducible refine (nand_Read.calls _ _ x172000_2 x172001_2 x172002_2 x172003_2 ji27 x14_2 false t174 t175 t176 _ ?side1 ?side2 A61.out).mono ?_); (case side1 => repeat (first | exact (Kd.V_reads' HO_172000.out).2.2 | (with_reducible refine Kd.C_alloc ?_ _) | (with_reducible refine Kd.C_drewN ?_ _) | (with_reducible refine Kd.C_drew ?_))); (case side2 => exact (Kd.V_reads' HO_172000.out).2.1); rintro e w87 ⟨rfl, hb⟩; refine ⟨_, rfl, ?_⟩; have n0_ := Aside0.mk (Kd.V_below (by (with_reducible repeat (first | apply Kd.V_alloc | apply Kd.V_drewN | apply Kd.V_drew)); exact HO_149000.out) hb); have n1_ := Aside0.mk (Kd.V_below (by (with_reducible repeat (first | apply Kd.V_alloc | apply Kd.V_drewN | apply Kd.V_drew)); exact HO_172000.out) hb); have n2_ := Aside0.mk (blk_below (g := gb148) (o := .cells #[.slice (some ad172) t158.length co49, .bool t161, .bool t162, .int .i64 t163] 27 (0, 0)) (by (with_reducible repeat (first | apply blk_drewN | apply blk_drew | apply blk_alloc)); exact BK148.out) hb); have n3_ := Aside0.mk (blk_below (g := gb171) (o := .cells #[.slice Ao86 x172000_2.length co86, .bool x172001_2, .bool x172002_2, .int .i64 x172003_2] 27 (0, 0)) (by (with_reducible repeat (first | apply blk_drewN | apply blk_drew | apply blk_alloc)); exact BK171.out) hb); have n4_ := Aside0.mk (below_step (by repeat (first | (with_reducible first | exact HB.out | apply below_alloc | apply pw_below_drewN | apply below_drew1 | refine below_set ?_ GE148.out | refine below_set ?_ GE171.out) | exact HB.out)) hb); clear HO_149000; clear HO_172000; clear BK148; clear BK171; clear HB; have HO_149000 := n0_; have HO_172000 := n1_; have BK148 := n2_; have BK171 := n3_; have HB := n4_; clear n0_ n1_ n2_ n3_ n4_; (try clear hb); (try clear hb2); (try clear hk); (try clear hi)) | ((with_reducible refine gate_dst (N := 15) rfl ?_); refine box_event ?hg (N := 15) ?hd (cs := #[.bool false, .string (⟨#[]⟩ : ByteArray), .string (⟨#[]⟩ : ByteArray)]) (t := 46) ?hr ?_; (case hd => rfl); (case hg => rfl); (case hr => first | (go_simp; done) | (go_simp; rfl)); intro gb177 hg w88 hbox hb; have n0_ := Aside0.mk (Kd.V_below (Kd.V_elderB (by (with_reducible repeat (first | apply Kd.V_alloc | apply Kd.V_drewN | apply Kd.V_drew)); exact HO_149000.out) gb177 (Nat.le_of_eq hg.symm)) hb); have n1_ := Aside0.mk (Kd.V_below (Kd.V_elderB (by (with_reducible repeat (first | apply Kd.V_alloc | apply Kd.V_drewN | apply Kd.V_drew)); exact HO_172000.out) gb177 (Nat.le_of_eq hg.symm)) hb); have n2_ := Aside0.mk (blk_below (g := gb148) (o := .cells #[.slice (some ad172) t158.length co49, .bool t161, .bool t162, .int .i64 t163] 27 (0, 0)) (by (with_reducible repeat (first | apply blk_drewN | apply blk_drew | apply blk_alloc)); exact BK148.out) hb); have n3_ := Aside0.mk (blk_below (g := gb171) (o := .cells #[.slice Ao86 x172000_2.length co86, .bool x172001_2, .bool x172002_2, .int .i64 x172003_2] 27 (0, 0)) (by (with_reducible repeat (first | apply blk_drewN | apply blk_drew | apply blk_alloc)); exact BK171.out) hb); have n4_ := Aside0.mk (below_step (by repeat (first | (with_reducible first | exact HB.out | apply below_alloc | apply pw_below_drewN | apply below_drew1 | refine below_set ?_ GE148.out | refine below_set ?_ GE171.out) | exact HB.out)) hb); have n5_ := Aside0.mk (hbox); have n6_ := Aside0.mk ((by rw [hg]; exact (below_size (by repeat (first | (with_reducible first | exact HB.out | apply below_alloc | apply pw_below_drewN | apply below_drew1 | refine below_set ?_ GE148.out | refine below_set ?_ GE171.out) | exact HB.out))) : w.heap.size ≤ gb177)); have n7_ := Aside0.mk ((by rw [hg]; exact (below_size (by repeat (first | (with_reducible first | exact HB.out | apply below_alloc | apply pw_below_drewN | apply below_drew1 | refine below_set ?_ GE148.out | refine below_set ?_ GE171.out) | exact HB.out))) : w.heap.size ≤ gb177)); have n8_ := Aside0.mk ((by rw [hg]; exact Nat.ne_of_lt (blk_lt (g := gb148) (o := .cells #[.slice (some ad172) t158.length co49, .bool t161, .bool t162, .int .i64 t163] 27 (0, 0)) (by (with_reducible repeat (first | apply blk_drewN | apply blk_drew | apply blk_alloc)); exact BK148.out)) : gb148 ≠ gb177)); have n9_ := Aside0.mk ((by rw [hg]; exact Nat.ne_of_gt (blk_lt (g := gb148) (o := .cells #[.slice (some ad172) t158.length co49, .bool t161, .bool t162, .int .i64 t163] 27 (0, 0)) (by (with_reducible repeat (first | apply blk_drewN | apply blk_drew | apply blk_alloc)); exact BK148.out)) : gb177 ≠ gb148)); have n10_ := Aside0.mk ((by rw [hg]; exact Nat.ne_of_lt (blk_lt (g := gb171) (o := .cells #[.slice Ao86 x172000_2.length co86, .bool x172001_2, .bool x172002_2, .int .i64 x172003_2] 27 (0, 0)) (by (with_reducible repeat (first | apply blk_drewN | apply blk_drew | apply blk_alloc)); exact BK171.out)) : gb171 ≠ gb177)); have n11_ := Aside0.mk ((by rw [hg]; exact Nat.ne_of_gt (blk_lt (g := gb171) (o := .cells #[.slice Ao86 x172000_2.length co86, .bool x172001_2, .bool x172002_2, .int .i64 x172003_2] 27 (0, 0)) (by (with_reducible repeat (first | apply blk_drewN | apply blk_drew | apply blk_alloc)); exact BK171.out)) : gb177 ≠ gb171)); clear HO_149000; clear HO_172000; clear BK148; clear BK171; clear HB; have HO_149000 := n0_; have HO_172000 := n1_; have BK148 := n2_; have BK171 := n3_; have HB := n4_; have BK177 := n5_; have GW177 := n6_; have GE177 := n7_; have NB148_177 := n8_; have NB177_148 := n9_; have NB171_177 := n10_; have NB177_171 := n11_; clear n0_ n1_ n2_ n3_ n4_ n5_ n6_ n7_ n8_ n9_ n10_ n11_; clear hb hbox hg; have hnb89 := NB177_148.out; have hnc89 := NB148_177.out; have hnb90 := NB177_171.out; have hnc90 := NB171_177.out; have hcz91_0 : w88.cell? ⟨gb177, 0, none⟩ = some (.bool false) := (blk_cell BK177.out 0).trans rfl; have hcz91_1 : w88.cell? ⟨gb177, 1, none⟩ = some (.string (⟨#[]⟩ : ByteArray)) := (blk_cell BK177.out 1).trans rfl; have hcz91_2 : w88.cell? ⟨gb177, 2, none⟩ = some (.string (⟨#[]⟩ : ByteArray)) := (blk_cell BK177.out 2).trans rfl; have hfz91_0 := blk_frozen BK177.out 0; have hfz91_1 := blk_frozen BK177.out 1; have hfz91_2 := blk_frozen BK177.out 2) | ((with_reducible refine gate_store (t := 46) (p := 15) rfl ?_); refine store_event (t := 46) (p := 15) (v := ?vo_w92) (w1 := (((w88.setCell ⟨gb177, 0, none⟩ (.bool false)).setCell ⟨gb177, 1, none⟩ (.string t174)).setCell ⟨gb177, 2, none⟩ (.string t175))) ?hg ?ho ?hn ?hr ?_; (case ho => rfl); (case hg => rfl); (case hn => rfl); (case hr => first | (go_simp; done) | (go_simp; rfl)); intro w92 hw; have n0_ : Aside0 (Kd.V k44 44 w92 w.heap.size (fun k_ => k_ ≠ gb148 ∧ k_ ≠ gb171 ∧ k_ ≠ gb177) (.slice (some ad172) t158.length co49) t158) := ⟨(by rw [hw]; exact (by (with_reducible repeat (first | apply Kd.V_alloc | apply Kd.V_drewN | apply Kd.V_drew)); exact Kd.V_mono (Kd.V_far (p := ⟨gb177, 2, none⟩) (Kd.V_far (p := ⟨gb177, 1, none⟩) (Kd.V_far (p := ⟨gb177, 0, none⟩) (Kd.V_mono HO_149000.out (fun k_ hk => (⟨hk, hk.2⟩ : _ ∧ k_ ≠ gb177))) (fun _ hk => hk.2) (.bool false)) (fun _ hk => hk.2) (.string t174)) (fun _ hk => hk.2) (.string t175)) (fun _ hk => ⟨hk.1.1.1, ⟨hk.1.1.2, hk.1.2⟩⟩)))⟩; have n1_ : Aside0 (Kd.V k44 44 w92 w.heap.size (fun k_ => k_ ≠ gb148 ∧ k_ ≠ gb171 ∧ k_ ≠ gb177) (.slice Ao86 x172000_2.length co86) x172000_2) := ⟨(by rw [hw]; exact (by (with_reducible repeat (first | apply Kd.V_alloc | apply Kd.V_drewN | apply Kd.V_drew)); exact Kd.V_mono (Kd.V_far (p := ⟨gb177, 2, none⟩) (Kd.V_far (p := ⟨gb177, 1, none⟩) (Kd.V_far (p := ⟨gb177, 0, none⟩) (Kd.V_mono HO_172000.out (fun k_ hk => (⟨hk, hk.2⟩ : _ ∧ k_ ≠ gb177))) (fun _ hk => hk.2) (.bool false)) (fun _ hk => hk.2) (.string t174)) (fun _ hk => hk.2) (.string t175)) (fun _ hk => ⟨hk.1.1.1, ⟨hk.1.1.2, hk.1.2⟩⟩)))⟩; have n2_ : Aside0 (w92.heap[gb148]? = some (.cells #[.slice (some ad172) t158.length co49, .bool t161, .bool t162, .int .i64 t163] 27 (0, 0))) := ⟨(by rw [hw]; exact (by (with_reducible repeat (first | apply blk_drewN | apply blk_drew | apply blk_alloc)); refine blk_far ?_ NB148_177.out _; (with_reducible repeat (first | apply blk_drewN | apply blk_drew | apply blk_alloc)); refine blk_far ?_ NB148_177.out _; (with_reducible repeat (first | apply blk_drewN | apply blk_drew | apply blk_alloc)); refine blk_far ?_ NB148_177.out _; (with_reducible repeat (first | apply blk_drewN | apply blk_drew | apply blk_alloc)); exact BK148.out))⟩; have n3_ : Aside0 (w92.heap[gb171]? = some (.cells #[.slice Ao86 x172000_2.length co86, .bool x172001_2, .bool x172002_2, .int .i64 x172003_2] 27 (0, 0))) := ⟨(by rw [hw]; exact (by (with_reducible repeat (first | apply blk_drewN | apply blk_drew | apply blk_alloc)); refine blk_far ?_ NB171_177.out _; (with_reducible repeat (first | apply blk_drewN | apply blk_drew | apply blk_alloc)); refine blk_far ?_ NB171_177.out _; (with_reducible repeat (first | apply blk_drewN | apply blk_drew | apply blk_alloc)); refine blk_far ?_ NB171_177.out _; (with_reducible repeat (first | apply blk_drewN | apply blk_drew | apply blk_alloc)); exact BK171.out))⟩; have n4_ : Aside0 (w92.heap[gb177]? = some (.cells #[.bool false, .string t174, .string t175] 46 (0, 0))) := ⟨(by rw [hw]; exact (by (with_reducible repeat (first | apply blk_drewN | apply blk_drew | apply blk_alloc)); refine blk_put (cs := #[.bool false, .string t174, .string (⟨#[]⟩ : ByteArray)]) ?_ 2 _ rfl; (with_reducible repeat (first | apply blk_drewN | apply blk_drew | apply blk_alloc)); refine blk_put (cs := #[.bool false, .string (⟨#[]⟩ : ByteArray), .string (⟨#[]⟩ : ByteArray)]) ?_ 1 _ rfl; (with_reducible repeat (first | apply blk_drewN | apply blk_drew | apply blk_alloc)); refine blk_put (cs := #[.bool false, .string (⟨#[]⟩ : ByteArray), .string (⟨#[]⟩ : ByteArray)]) ?_ 0 _ rfl; (with_reducible repeat (first | apply blk_drewN | apply blk_drew | apply blk_alloc)); exact BK177.out))⟩; have n5_ : Aside0 (Below w.heap.size w w92) := ⟨(by rw [hw]; exact (by repeat (first | (with_reducible first | exact HB.out | apply below_alloc | apply pw_below_drewN | apply below_drew1 | refine below_set ?_ GE148.out | refine below_set ?_ GE171.out | refine below_set ?_ GE177.out) | exact HB.out)))⟩; clear hw; clear HO_149000; clear HO_172000; clear BK148; clear BK171; clear BK177; clear HB; have HO_149000 := n0_; have HO_172000 := n1_; have BK148 := n2_; have BK171 := n3_; have BK177 := n4_; have HB := n5_; clear n0_ n1_ n2_ n3_ n4_ n5_; have hcz93_0 : w92.cell? ⟨gb171, 0, none⟩ = some (.slice Ao86 x172000_2.length co86) := (blk_cell BK171.out 0).trans rfl; have hcz93_1 : w92.cell? ⟨gb171, 1, none⟩ = some (.bool x172001_2) := (blk_cell BK171.out 1).trans rfl; have hcz93_2 : w92.cell? ⟨gb171, 2, none⟩ = some (.bool x172002_2) := (blk_cell BK171.out 2).trans rfl; have hcz93_3 : w92.cell? ⟨gb171, 3, none⟩ = some (.int .i64 x172003_2) := (blk_cell BK171.out 3).trans rfl; have hfz93_0 := blk_frozen BK171.out 0; have hfz93_1 := blk_frozen BK171.out 1; have hfz93_2 := blk_frozen BK171.out 2; have hfz93_3 := blk_frozen BK171.out 3) | ((with_reducible refine gate_callee (f := 19) rfl ?_); refine goesL_ (some 94) rfl rfl Try.func19 (by kernel_rfl) rfl #[.agg #[.slice Ao86 x172000_2.length co86, .bool x172001_2, .bool x172002_2, .int .i64 x172003_2], .int .i64 ji27, .int .i64 x14_2, .agg #[.bool false, .string (⟨#[120]⟩ : ByteArray), .string (⟨#[]⟩ : ByteArray)], .agg #[.int .i64 0, .string (⟨#[]⟩ : ByteArray), .string (⟨#[]⟩ : ByteArray), .int .i64 0]] rfl (by (try simp only [List.map_toArray, List.map_cons, List.map_nil]); first | done | (simp only [hji27]; rfl) | rfl | (simp only [List.length_drop, List.length_take]; rfl)) ?_; (with_reducible refine (nand_Program.calls (fun k_ => (k_ ≠ gb148 ∧ (k_ ≠ gb171 ∧ k_ ≠ gb177))) _ _ x172000_2 x172001_2 x172002_2 x172003_2 ji27 x14_2 false (⟨#[120]⟩ : ByteArray) (⟨#[]⟩ : ByteArray) 0 (⟨#[]⟩ : ByteArray) (⟨#[]⟩ : ByteArray) 0 t178 t181 t182 t183 t184 _ ?side1 A62.out).mono ?_); (case side1 => exact HO_172000.out); rintro e w94 ⟨v179, rfl, ho0, hb⟩; refine ⟨_, rfl, ?_⟩; have n0_ := Aside0.mk (Kd.V_below (by (with_reducible repeat (first | apply Kd.V_alloc | apply Kd.V_drewN | apply Kd.V_drew)); exact HO_149000.out) hb); have n1_ := Aside0.mk (Kd.V_below (by (with_reducible repeat (first | apply Kd.V_alloc | apply Kd.V_drewN | apply Kd.V_drew)); exact HO_172000.out) hb); have n2_ := Aside0.mk (Kd.V_lower (Kd.V_mono (ok' := fun k_ => k_ ≠ gb148 ∧ k_ ≠ gb171 ∧ k_ ≠ gb177) ho0 (fun k_ hk_ => ⟨Or.elim hk_ (fun hs_ => hs_.1) (fun hn_ => (Kd.freshB (g := gb148) (o := .cells #[.slice (some ad172) t158.length co49, .bool t161, .bool t162, .int .i64 t163] 27 (0, 0)) (by (with_reducible repeat (first | apply blk_drewN | apply blk_drew | apply blk_alloc)); exact BK148.out) k_ hn_)), Or.elim hk_ (fun hs_ => hs_.2.1) (fun hn_ => (Kd.freshB (g := gb171) (o := .cells #[.slice Ao86 x172000_2.length co86, .bool x172001_2, .bool x172002_2, .int .i64 x172003_2] 27 (0, 0)) (by (with_reducible repeat (first | apply blk_drewN | apply blk_drew | apply blk_alloc)); exact BK171.out) k_ hn_)), Or.elim hk_ (fun hs_ => hs_.2.2) (fun hn_ => (Kd.freshB (g := gb177) (o := .cells #[.bool false, .string t174, .string t175] 46 (0, 0)) (by (with_reducible repeat (first | apply blk_drewN | apply blk_drew | apply blk_alloc)); exact BK177.out) k_ hn_))⟩)) (below_size (by repeat (first | (with_reducible first | exact HB.out | apply below_alloc | apply pw_below_drewN | apply below_drew1 | refine below_set ?_ GE148.out | refine below_set ?_ GE171.out | refine below_set ?_ GE177.out) | exact HB.out)))); have n3_ := Aside0.mk (blk_below (g := gb148) (o := .cells #[.slice (some ad172) t158.length co49, .bool t161, .bool t162, .int .i64 t163] 27 (0, 0)) (by (with_reducible repeat (first | apply blk_drewN | apply blk_drew | apply blk_alloc)); exact BK148.out) hb); have n4_ := Aside0.mk (blk_below (g := gb171) (o := .cells #[.slice Ao86 x172000_2.length co86, .bool x172001_2, .bool x172002_2, .int .i64 x172003_2] 27 (0, 0)) (by (with_reducible repeat (first | apply blk_drewN | apply blk_drew | apply blk_alloc)); exact BK171.out) hb); have n5_ := Aside0.mk (blk_below (g := gb177) (o := .cells #[.bool false, .string t174, .string t175] 46 (0, 0)) (by (with_reducible repeat (first | apply blk_drewN | apply blk_drew | apply blk_alloc)); exact BK177.out) hb); have n6_ := Aside0.mk (below_step (by repeat (first | (with_reducible first | exact HB.out | apply below_alloc | apply pw_below_drewN | apply below_drew1 | refine below_set ?_ GE148.out | refine below_set ?_ GE171.out | refine below_set ?_ GE177.out) | exact HB.out)) hb); clear HO_149000; clear HO_172000; clear BK148; clear BK171; clear BK177; clear HB; have HO_149000 := n0_; have HO_172000 := n1_; have HO180 := n2_; have BK148 := n3_; have BK171 := n4_; have BK177 := n5_; have HB := n6_; clear n0_ n1_ n2_ n3_ n4_ n5_ n6_; (try clear hb); (try clear hb2); (try clear hk); (try clear hi); (try clear ho0)) | ((with_reducible refine gate_dst (N := 17) rfl ?_); refine box_event ?hg (N := 17) ?hd (cs := #[.slice none 0 0, .bool false, .bool false, .int .i64 0]) (t := 27) ?hr ?_; (case hd => rfl); (case hg => rfl); (case hr => first | (go_simp; done) | (go_simp; rfl)); intro gb185 hg w95 hbox hb; have n0_ := Aside0.mk (Kd.V_below (Kd.V_elderB (by (with_reducible repeat (first | apply Kd.V_alloc | apply Kd.V_drewN | apply Kd.V_drew)); exact HO_149000.out) gb185 (Nat.le_of_eq hg.symm)) hb); have n1_ := Aside0.mk (Kd.V_below (Kd.V_elderB (by (with_reducible repeat (first | apply Kd.V_alloc | apply Kd.V_drewN | apply Kd.V_drew)); exact HO_172000.out) gb185 (Nat.le_of_eq hg.symm)) hb); have n2_ := Aside0.mk (Kd.V_below (Kd.V_elderB (by (with_reducible repeat (first | apply Kd.V_alloc | apply Kd.V_drewN | apply Kd.V_drew)); exact HO180.out) gb185 (Nat.le_of_eq hg.symm)) hb); have n3_ := Aside0.mk (blk_below (g := gb148) (o := .cells #[.slice (some ad172) t158.length co49, .bool t161, .bool t162, .int .i64 t163] 27 (0, 0)) (by (with_reducible repeat (first | apply blk_drewN | apply blk_drew | apply blk_alloc)); exact BK148.out) hb); have n4_ := Aside0.mk (blk_below (g := gb171) (o := .cells #[.slice Ao86 x172000_2.length co86, .bool x172001_2, .bool x172002_2, .int .i64 x172003_2] 27 (0, 0)) (by (with_reducible repeat (first | apply blk_drewN | apply blk_drew | apply blk_alloc)); exact BK171.out) hb); have n5_ := Aside0.mk (blk_below (g := gb177) (o := .cells #[.bool false, .string t174, .string t175] 46 (0, 0)) (by (with_reducible repeat (first | apply blk_drewN | apply blk_drew | apply blk_alloc)); exact BK177.out) hb); have n6_ := Aside0.mk (below_step (by repeat (first | (with_reducible first | exact HB.out | apply below_alloc | apply pw_below_drewN | apply below_drew1 | refine below_set ?_ GE148.out | refine below_set ?_ GE171.out | refine below_set ?_ GE177.out) | exact HB.out)) hb); have n7_ := Aside0.mk (hbox); have n8_ := Aside0.mk ((by rw [hg]; exact (below_size (by repeat (first | (with_reducible first | exact HB.out | apply below_alloc | apply pw_below_drewN | apply below_drew1 | refine below_set ?_ GE148.out | refine below_set ?_ GE171.out | refine below_set ?_ GE177.out) | exact HB.out))) : w.heap.size ≤ gb185)); have n9_ := Aside0.mk ((by rw [hg]; exact (below_size (by repeat (first | (with_reducible first | exact HB.out | apply below_alloc | apply pw_below_drewN | apply below_drew1 | refine below_set ?_ GE148.out | refine below_set ?_ GE171.out | refine below_set ?_ GE177.out) | exact HB.out))) : w.heap.size ≤ gb185)); have n10_ := Aside0.mk ((by rw [hg]; exact Nat.ne_of_lt (blk_lt (g := gb148) (o := .cells #[.slice (some ad172) t158.length co49, .bool t161, .bool t162, .int .i64 t163] 27 (0, 0)) (by (with_reducible repeat (first | apply blk_drewN | apply blk_drew | apply blk_alloc)); exact BK148.out)) : gb148 ≠ gb185)); have n11_ := Aside0.mk ((by rw [hg]; exact Nat.ne_of_gt (blk_lt (g := gb148) (o := .cells #[.slice (some ad172) t158.length co49, .bool t161, .bool t162, .int .i64 t163] 27 (0, 0)) (by (with_reducible repeat (first | apply blk_drewN | apply blk_drew | apply blk_alloc)); exact BK148.out)) : gb185 ≠ gb148)); have n12_ := Aside0.mk ((by rw [hg]; exact Nat.ne_of_lt (blk_lt (g := gb171) (o := .cells #[.slice Ao86 x172000_2.length co86, .bool x172001_2, .bool x172002_2, .int .i64 x172003_2] 27 (0, 0)) (by (with_reducible repeat (first | apply blk_drewN | apply blk_drew | apply blk_alloc)); exact BK171.out)) : gb171 ≠ gb185)); have n13_ := Aside0.mk ((by rw [hg]; exact Nat.ne_of_gt (blk_lt (g := gb171) (o := .cells #[.slice Ao86 x172000_2.length co86, .bool x172001_2, .bool x172002_2, .int .i64 x172003_2] 27 (0, 0)) (by (with_reducible repeat (first | apply blk_drewN | apply blk_drew | apply blk_alloc)); exact BK171.out)) : gb185 ≠ gb171)); have n14_ := Aside0.mk ((by rw [hg]; exact Nat.ne_of_lt (blk_lt (g := gb177) (o := .cells #[.bool false, .string t174, .string t175] 46 (0, 0)) (by (with_reducible repeat (first | apply blk_drewN | apply blk_drew | apply blk_alloc)); exact BK177.out)) : gb177 ≠ gb185)); have n15_ := Aside0.mk ((by rw [hg]; exact Nat.ne_of_gt (blk_lt (g := gb177) (o := .cells #[.bool false, .string t174, .string t175] 46 (0, 0)) (by (with_reducible repeat (first | apply blk_drewN | apply blk_drew | apply blk_alloc)); exact BK177.out)) : gb185 ≠ gb177)); clear HO_149000; clear HO_172000; clear HO180; clear BK148; clear BK171; clear BK177; clear HB; have HO_149000 := n0_; have HO_172000 := n1_; have HO180 := n2_; have BK148 := n3_; have BK171 := n4_; have BK177 := n5_; have HB := n6_; have BK185 := n7_; have GW185 := n8_; have GE185 := n9_; have NB148_185 := n10_; have NB185_148 := n11_; have NB171_185 := n12_; have NB185_171 := n13_; have NB177_185 := n14_; have NB185_177 := n15_; clear n0_ n1_ n2_ n3_ n4_ n5_ n6_ n7_ n8_ n9_ n10_ n11_ n12_ n13_ n14_ n15_; clear hb hbox hg; obtain ⟨Ao96, co96, eo96⟩ := Kd.V_slice HO180.out; subst eo96; have hnb97 := NB185_148.out; have hnc97 := NB148_185.out; have hnb98 := NB185_171.out; have hnc98 := NB171_185.out; have hnb99 := NB185_177.out; have hnc99 := NB177_185.out; have hcz100_0 : w95.cell? ⟨gb185, 0, none⟩ = some (.slice none 0 0) := (blk_cell BK185.out 0).trans rfl; have hcz100_1 : w95.cell? ⟨gb185, 1, none⟩ = some (.bool false) := (blk_cell BK185.out 1).trans rfl; have hcz100_2 : w95.cell? ⟨gb185, 2, none⟩ = some (.bool false) := (blk_cell BK185.out 2).trans rfl; have hcz100_3 : w95.cell? ⟨gb185, 3, none⟩ = some (.int .i64 0) := (blk_cell BK185.out 3).trans rfl; have hfz100_0 := blk_frozen BK185.out 0; have hfz100_1 := blk_frozen BK185.out 1; have hfz100_2 := blk_frozen BK185.out 2; have hfz100_3 := blk_frozen BK185.out 3; have hcz101_0 : w95.cell? ⟨gb177, 0, none⟩ = some (.bool false) := (blk_cell BK177.out 0).trans rfl; have hcz101_1 : w95.cell? ⟨gb177, 1, none⟩ = some (.string t174) := (blk_cell BK177.out 1).trans rfl; have hcz101_2 : w95.cell? ⟨gb177, 2, none⟩ = some (.string t175) := (blk_cell BK177.out 2).trans rfl; have hfz101_0 := blk_frozen BK177.out 0; have hfz101_1 := blk_frozen BK177.out 1; have hfz101_2 := blk_frozen BK177.out 2; have hcz102_0 : w95.cell? ⟨gb171, 0, none⟩ = some (.slice Ao86 x172000_2.length co86) := (blk_cell BK171.out 0).trans rfl; have hcz102_1 : w95.cell? ⟨gb171, 1, none⟩ = some (.bool x172001_2) := (blk_cell BK171.out 1).trans rfl; have hcz102_2 : w95.cell? ⟨gb171, 2, none⟩ = some (.bool x172002_2) := (blk_cell BK171.out 2).trans rfl; have hcz102_3 : w95.cell? ⟨gb171, 3, none⟩ = some (.int .i64 x172003_2) := (blk_cell BK171.out 3).trans rfl; have hfz102_0 := blk_frozen BK171.out 0; have hfz102_1 := blk_frozen BK171.out 1; have hfz102_2 := blk_frozen BK171.out 2; have hfz102_3 := blk_frozen BK171.out 3))
             go_roundg k2
             case measure => have := HJ6.out; have := HK2.out; omega
             case rel => exact ⟨(wrap64 (x14_2 + 1)), (t178), (t181), (t182), (t183), (.slice Ao96 t178.length co96), (by first | rfl | (simp; done) | (simp [*]; done)), H', ⟨by have := HJ6.out; have := HK2.out; omega⟩, ⟨by (with_reducible repeat (first | apply Kd.V_alloc | apply Kd.V_drewN | apply Kd.V_drew)); exact Kd.V_mono (Kd.V_far (p := ⟨gb171, 3, none⟩) (Kd.V_far (p := ⟨gb171, 2, none⟩) (Kd.V_far (p := ⟨gb171, 1, none⟩) (Kd.V_far (p := ⟨gb171, 0, none⟩) (Kd.V_far (p := ⟨gb185, 3, none⟩) (Kd.V_far (p := ⟨gb185, 2, none⟩) (Kd.V_far (p := ⟨gb185, 1, none⟩) (Kd.V_far (p := ⟨gb185, 0, none⟩) (Kd.V_mono (Kd.V_mono HO_149000.out (fun k_ hk => (⟨hk, hk.2⟩ : _ ∧ k_ ≠ gb185))) (fun k_ hk => (⟨hk, hk.1.1.2.1⟩ : _ ∧ k_ ≠ gb171))) (fun _ hk => hk.1.2) (.slice Ao96 t178.length co96)) (fun _ hk => hk.1.2) (.bool t181)) (fun _ hk => hk.1.2) (.bool t182)) (fun _ hk => hk.1.2) (.int .i64 t183)) (fun _ hk => hk.2) _) (fun _ hk => hk.2) (.bool t181)) (fun _ hk => hk.2) (.bool t182)) (fun _ hk => hk.2) _) (fun _ hk => ⟨hk.1.1.1.1, hk.1.1.1.2.1⟩)⟩, ⟨by (with_reducible repeat (first | apply Kd.V_alloc | apply Kd.V_drewN | apply Kd.V_drew)); exact Kd.V_mono (Kd.V_far (p := ⟨gb171, 3, none⟩) (Kd.V_far (p := ⟨gb171, 2, none⟩) (Kd.V_far (p := ⟨gb171, 1, none⟩) (Kd.V_far (p := ⟨gb171, 0, none⟩) (Kd.V_far (p := ⟨gb185, 3, none⟩) (Kd.V_far (p := ⟨gb185, 2, none⟩) (Kd.V_far (p := ⟨gb185, 1, none⟩) (Kd.V_far (p := ⟨gb185, 0, none⟩) (Kd.V_mono (Kd.V_mono HO180.out (fun k_ hk => (⟨hk, hk.2⟩ : _ ∧ k_ ≠ gb185))) (fun k_ hk => (⟨hk, hk.1.1.2.1⟩ : _ ∧ k_ ≠ gb171))) (fun _ hk => hk.1.2) (.slice Ao96 t178.length co96)) (fun _ hk => hk.1.2) (.bool t181)) (fun _ hk => hk.1.2) (.bool t182)) (fun _ hk => hk.1.2) (.int .i64 t183)) (fun _ hk => hk.2) _) (fun _ hk => hk.2) (.bool t181)) (fun _ hk => hk.2) (.bool t182)) (fun _ hk => hk.2) _) (fun _ hk => ⟨hk.1.1.1.1, hk.1.1.1.2.1⟩)⟩, ⟨by (with_reducible repeat (first | apply blk_drewN | apply blk_drew | apply blk_alloc)); refine blk_far ?_ NB148_171.out _; (with_reducible repeat (first | apply blk_drewN | apply blk_drew | apply blk_alloc)); refine blk_far ?_ NB148_171.out _; (with_reducible repeat (first | apply blk_drewN | apply blk_drew | apply blk_alloc)); refine blk_far ?_ NB148_171.out _; (with_reducible repeat (first | apply blk_drewN | apply blk_drew | apply blk_alloc)); refine blk_far ?_ NB148_171.out _; (with_reducible repeat (first | apply blk_drewN | apply blk_drew | apply blk_alloc)); refine blk_far ?_ NB148_185.out _; (with_reducible repeat (first | apply blk_drewN | apply blk_drew | apply blk_alloc)); refine blk_far ?_ NB148_185.out _; (with_reducible repeat (first | apply blk_drewN | apply blk_drew | apply blk_alloc)); refine blk_far ?_ NB148_185.out _; (with_reducible repeat (first | apply blk_drewN | apply blk_drew | apply blk_alloc)); refine blk_far ?_ NB148_185.out _; (with_reducible repeat (first | apply blk_drewN | apply blk_drew | apply blk_alloc)); exact BK148.out⟩, ⟨by (with_reducible repeat (first | apply blk_drewN | apply blk_drew | apply blk_alloc)); refine blk_put (cs := #[.slice Ao96 t178.length co96, .bool t181, .bool t182, .int .i64 x172003_2]) ?_ 3 _ rfl; (with_reducible repeat (first | apply blk_drewN | apply blk_drew | apply blk_alloc)); refine blk_put (cs := #[.slice Ao96 t178.length co96, .bool t181, .bool x172002_2, .int .i64 x172003_2]) ?_ 2 _ rfl; (with_reducible repeat (first | apply blk_drewN | apply blk_drew | apply blk_alloc)); refine blk_put (cs := #[.slice Ao96 t178.length co96, .bool x172001_2, .bool x172002_2, .int .i64 x172003_2]) ?_ 1 _ rfl; (with_reducible repeat (first | apply blk_drewN | apply blk_drew | apply blk_alloc)); refine blk_put (cs := #[.slice Ao86 x172000_2.length co86, .bool x172001_2, .bool x172002_2, .int .i64 x172003_2]) ?_ 0 _ rfl; (with_reducible repeat (first | apply blk_drewN | apply blk_drew | apply blk_alloc)); refine blk_far ?_ NB171_185.out _; (with_reducible repeat (first | apply blk_drewN | apply blk_drew | apply blk_alloc)); refine blk_far ?_ NB171_185.out _; (with_reducible repeat (first | apply blk_drewN | apply blk_drew | apply blk_alloc)); refine blk_far ?_ NB171_185.out _; (with_reducible repeat (first | apply blk_drewN | apply blk_drew | apply blk_alloc)); refine blk_far ?_ NB171_185.out _; (with_reducible repeat (first | apply blk_drewN | apply blk_drew | apply blk_alloc)); exact BK171.out⟩, ⟨by repeat (first | (with_reducible first | exact HB.out | apply below_alloc | apply pw_below_drewN | apply below_drew1 | refine below_set ?_ GE148.out | refine below_set ?_ GE171.out | refine below_set ?_ GE177.out | refine below_set ?_ GE185.out) | exact HB.out)⟩⟩
           ·
            rw [if_neg c64] at H
            have c64b0 : (t184 == 0) = false := beq_eq_false_iff_ne.mpr c64
            have c64b1 : (t184 != 0) = true := bne_iff_ne.mpr c64
            exact absurd (H.trans (congrArg some hrt.out)) (by simp)
          ·
           rw [if_neg c63] at H
           have c63b0 : (t176 == 0) = false := beq_eq_false_iff_ne.mpr c63
           have c63b1 : (t176 != 0) = true := bne_iff_ne.mpr c63
           exact absurd (H.trans (congrArg some hrt.out)) (by simp)
         ·
          rw [if_neg c60] at H
          have c60b0 : decide (x14_2 < (wrap64 (1 + (Int.tmod (wrap64 (a1)) 5)))) = false := decide_eq_false c60
          clear c60
          replace H : (if t170 = 0 then (some (x172001_2 == t161)) else (some false)) = some r := by first | exact H | (rw [if_pos rfl] at H; exact H) | simpa using H
          by_cases c137 : t170 = 0
          ·
           rw [if_pos c137] at H
           have c137b0 : (t170 == 0) = true := beq_iff_eq.mpr c137
           have c137b1 : (t170 != 0) = false := bne_eq_false_iff_eq.mpr c137
           clear c137
           obtain rfl := Option.some.inj H
           have hnb138 := NB171_148.out
           have hnc138 := NB148_171.out
           have hcz139_0 : wr.cell? ⟨gb171, 0, none⟩ = some (u172000) := (blk_cell BK171.out 0).trans rfl
           have hcz139_1 : wr.cell? ⟨gb171, 1, none⟩ = some (.bool x172001_2) := (blk_cell BK171.out 1).trans rfl
           have hcz139_2 : wr.cell? ⟨gb171, 2, none⟩ = some (.bool x172002_2) := (blk_cell BK171.out 2).trans rfl
           have hcz139_3 : wr.cell? ⟨gb171, 3, none⟩ = some (.int .i64 x172003_2) := (blk_cell BK171.out 3).trans rfl
           have hfz139_0 := blk_frozen BK171.out 0
           have hfz139_1 := blk_frozen BK171.out 1
           have hfz139_2 := blk_frozen BK171.out 2
           have hfz139_3 := blk_frozen BK171.out 3
           have hcz140_0 : wr.cell? ⟨gb148, 0, none⟩ = some (.slice (some ad172) t158.length co49) := (blk_cell BK148.out 0).trans rfl
           have hcz140_1 : wr.cell? ⟨gb148, 1, none⟩ = some (.bool t161) := (blk_cell BK148.out 1).trans rfl
           have hcz140_2 : wr.cell? ⟨gb148, 2, none⟩ = some (.bool t162) := (blk_cell BK148.out 2).trans rfl
           have hcz140_3 : wr.cell? ⟨gb148, 3, none⟩ = some (.int .i64 t163) := (blk_cell BK148.out 3).trans rfl
           have hfz140_0 := blk_frozen BK148.out 0
           have hfz140_1 := blk_frozen BK148.out 1
           have hfz140_2 := blk_frozen BK148.out 2
           have hfz140_3 := blk_frozen BK148.out 3
           go_wp2
           go_ret
           exact ⟨by first | rfl | (simp [errW_none, errW_some] <;> rfl) | (simp only [← hji27]; first | rfl | (simp [errW_none, errW_some] <;> rfl)) | (simp [*, errW_none, errW_some] <;> rfl), by repeat (first | (with_reducible first | exact HB.out | apply below_alloc | apply pw_below_drewN | apply below_drew1 | refine below_set ?_ GE148.out | refine below_set ?_ GE171.out) | exact HB.out)⟩
          ·
           rw [if_neg c137] at H
           have c137b0 : (t170 == 0) = false := beq_eq_false_iff_ne.mpr c137
           have c137b1 : (t170 != 0) = true := bne_iff_ne.mpr c137
           exact absurd (H.trans (congrArg some hrt.out)) (by simp)
     ·
      rw [if_neg c29] at H
      exact absurd H (by simp)
    ·
     rw [if_neg c28] at H
     exact absurd H (by simp)
 ·
  replace c5 := Bool.eq_false_iff.mpr c5
  subst c5
  have H1 : (some false) = some r := by rw [if_neg (show ¬ (false = true) by decide)] at H; exact H
  clear H
  have H := H1
  clear H1
  exact absurd (H.trans (congrArg some hrt.out)) (by simp)

end Go.Proofs.Ythjjngfbpoapnaa.PAll
