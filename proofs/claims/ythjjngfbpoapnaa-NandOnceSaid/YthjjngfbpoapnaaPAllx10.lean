/- Written by a program of this session (wip/xp) out of the translation: functions in plain Lean, and proofs that the calls come to these. -/
import Derived.Test.YthjjngfbpoapnaaPAllx0
import Derived.Test.YthjjngfbpoapnaaPAllx1
import Derived.Test.YthjjngfbpoapnaaPAllx2
import Derived.Test.YthjjngfbpoapnaaPAllx6
import Derived.Test.YthjjngfbpoapnaaPAllx7
import Derived.Test.YthjjngfbpoapnaaPAllx8
import Derived.Test.YthjjngfbpoapnaaPAllx9
namespace Go.Proofs.Ythjjngfbpoapnaa.PAll
open Go.RowKit Go.Proofs.YthjjngfbpoapnaaW.PrintWords Go.Proofs.YthjjngfbpoapnaaW.PrintLast Go.Proofs.YthjjngfbpoapnaaW.PrintMore
attribute [local go_sem] max2_int min2_int max_two min_two max_three min_three max_four min_four   -- for this text's walks alone
set_option linter.unusedVariables false
set_option linter.unusedSimpArgs false

theorem rA {α : Type} {d : Kd α} {e : Nat} {w : World} {base : Nat} {ok : Nat → Prop} {v : Value} {xs : List α} (h : d.R e w base ok v xs) (o : Obj) : d.R e (w.alloc o) base ok v xs := Kd.R_alloc h o
theorem rN {α : Type} {d : Kd α} {e : Nat} {w : World} {base : Nat} {ok : Nat → Prop} {v : Value} {xs : List α} (h : d.R e w base ok v xs) (m : Nat) : d.R e (w.drewN m) base ok v xs := Kd.R_drewN h m
theorem rD {α : Type} {d : Kd α} {e : Nat} {w : World} {base : Nat} {ok : Nat → Prop} {v : Value} {xs : List α} (h : d.R e w base ok v xs) : d.R e w.drew base ok v xs := Kd.R_drew h
/-! ### clinkerlaw05_NandOnce: function 8 -/
mutual
def clinkerlaw05_NandOnce.l0 : Nat → List (S37) → Bool → Int → List (S44) → Bool → Bool → Int → Option (Bool)
 | 0, _, _, _, _, _, _, _ => none
 | k + 1, x0, x5, x8, x214000, x214001, x214002, x214003 => if x8 < (x0.length : Int) then (clinkerlaw05_NandOnce.j1 k x0 x5 x8 (decide (x8 < 12)) x214000 x214001 x214002 x214003) else (clinkerlaw05_NandOnce.j1 k x0 x5 x8 false x214000 x214001 x214002 x214003)
def clinkerlaw05_NandOnce.j1 : Nat → List (S37) → Bool → Int → Bool → List (S44) → Bool → Bool → Int → Option (Bool)
 | 0, _, _, _, _, _, _, _, _ => none
 | k + 1, x0, x5, x8, x33, x214000, x214001, x214002, x214003 => if x33 = true then (if 0 ≤ x8 then (if x8 < (x0.length : Int) then ((nand_Read.f x214000 x214001 x214002 x214003 (Int.tmod (wrap64 ((rd_T37 x0 x8).f1)) 2) (Int.tmod (wrap64 ((rd_T37 x0 x8).f2)) 6)).bind fun bt216 => ((clinkerlaw05_Fate.f ((rd_T37 x0 x8).f0) ((rd_T37 x0 x8).f1) ((rd_T37 x0 x8).f2) ((rd_T37 x0 x8).f3) ((rd_T37 x0 x8).f4) ((rd_T37 x0 x8).f5)).bind fun bt223 => ((nand_Program.f x214000 x214001 x214002 x214003 (Int.tmod (wrap64 ((rd_T37 x0 x8).f1)) 2) (Int.tmod (wrap64 ((rd_T37 x0 x8).f2)) 6) false ((rd_T37 x0 x8).f4) (⟨#[]⟩ : ByteArray) bt223.1 bt223.2.1 bt223.2.2.1 bt223.2.2.2).bind fun bt227 => (if bt216.2.2.2 = 0 then (if bt216.1 = true then (if bt227.2.1 = true then (clinkerlaw05_NandOnce.j2 k x0 x5 x8 (Int.tmod (wrap64 ((rd_T37 x0 x8).f1)) 2) bt227.2.2.2.2 (bt227.2.2.2.2 != 1) x214000 x214001 x214002 x214003 bt227.1 bt227.2.1 bt227.2.2.1 bt227.2.2.2.1) else (clinkerlaw05_NandOnce.j2 k x0 x5 x8 (Int.tmod (wrap64 ((rd_T37 x0 x8).f1)) 2) bt227.2.2.2.2 true x214000 x214001 x214002 x214003 bt227.1 bt227.2.1 bt227.2.2.1 bt227.2.2.2.1)) else (clinkerlaw05_NandOnce.j2 k x0 x5 x8 (Int.tmod (wrap64 ((rd_T37 x0 x8).f1)) 2) bt227.2.2.2.2 false x214000 x214001 x214002 x214003 bt227.1 bt227.2.1 bt227.2.2.1 bt227.2.2.2.1)) else (clinkerlaw05_NandOnce.j2 k x0 x5 x8 (Int.tmod (wrap64 ((rd_T37 x0 x8).f1)) 2) bt227.2.2.2.2 false x214000 x214001 x214002 x214003 bt227.1 bt227.2.1 bt227.2.2.1 bt227.2.2.2.1))))) else (none)) else (none)) else (some x5)
def clinkerlaw05_NandOnce.j2 : Nat → List (S37) → Bool → Int → Int → Int → Bool → List (S44) → Bool → Bool → Int → List (S44) → Bool → Bool → Int → Option (Bool)
 | 0, _, _, _, _, _, _, _, _, _, _, _, _, _, _ => none
 | k + 1, x0, x5, x8, x9, x14, x89, x214000, x214001, x214002, x214003, x235000, x235001, x235002, x235003 => if x89 = true then (some false) else (if x14 = 1 then (if 0 ≤ x8 then (if x8 < (x0.length : Int) then (if (Int.tmod ((rd_T37 x0 x8).f0) 2) = 0 then ((nand_Erase.f x214000 x214001 x214002 x214003 x9 0 (⟨#[]⟩ : ByteArray) (⟨#[]⟩ : ByteArray) 0).bind fun bt236 => ((nand_On.f bt236.1 bt236.2.1 bt236.2.2.1 bt236.2.2.2.1).bind fun bt243 => (clinkerlaw05_NandOnce.l0 k x0 x5 (wrap64 (x8 + 1)) bt243.1 false bt243.2.2.1 bt243.2.2.2))) else ((nand_On.f x214000 x214001 x214002 x214003).bind fun bt249 => (clinkerlaw05_NandOnce.l0 k x0 x5 (wrap64 (x8 + 1)) bt249.1 false bt249.2.2.1 bt249.2.2.2))) else (none)) else (none)) else ((nand_On.f x235000 x235001 x235002 x235003).bind fun bt255 => (clinkerlaw05_NandOnce.l0 k x0 x5 (wrap64 (x8 + 1)) bt255.1 false bt255.2.2.1 bt255.2.2.2)))
end
def clinkerlaw05_NandOnce.f (k : Nat) (l0 : List (S37)) (a1 : Int) : Option (Bool) := (clinkerlaw05_awake.f).bind fun t205 => (if t205 = true then ((nand_New.f 2 (wrap64 (1 + (Int.tmod (wrap64 (a1)) 5))) ([] : List Int)).bind fun bt206 => (clinkerlaw05_NandOnce.l0 k l0 t205 0 bt206.1 bt206.2.1 bt206.2.2.1 bt206.2.2.2.1)) else (some false))
theorem clinkerlaw05_NandOnce.mono_l : ∀ k, (∀ y0 y1 y2 y3 y4 y5 y6, LeO (clinkerlaw05_NandOnce.l0 k y0 y1 y2 y3 y4 y5 y6) (clinkerlaw05_NandOnce.l0 (k + 1) y0 y1 y2 y3 y4 y5 y6)) ∧ (∀ y0 y1 y2 y3 y4 y5 y6 y7, LeO (clinkerlaw05_NandOnce.j1 k y0 y1 y2 y3 y4 y5 y6 y7) (clinkerlaw05_NandOnce.j1 (k + 1) y0 y1 y2 y3 y4 y5 y6 y7)) ∧ (∀ y0 y1 y2 y3 y4 y5 y6 y7 y8 y9 y10 y11 y12 y13, LeO (clinkerlaw05_NandOnce.j2 k y0 y1 y2 y3 y4 y5 y6 y7 y8 y9 y10 y11 y12 y13) (clinkerlaw05_NandOnce.j2 (k + 1) y0 y1 y2 y3 y4 y5 y6 y7 y8 y9 y10 y11 y12 y13))
 | 0 => ⟨fun _ _ _ _ _ _ _ r h => by simp [clinkerlaw05_NandOnce.l0] at h, fun _ _ _ _ _ _ _ _ r h => by simp [clinkerlaw05_NandOnce.j1] at h, fun _ _ _ _ _ _ _ _ _ _ _ _ _ _ r h => by simp [clinkerlaw05_NandOnce.j2] at h⟩
 | k + 1 => by
  obtain ⟨ih0, ih1, ih2⟩ := clinkerlaw05_NandOnce.mono_l k
  refine ⟨?_, ?_, ?_⟩
  ·
   intro y0 y1 y2 y3 y4 y5 y6
   unfold clinkerlaw05_NandOnce.l0
   repeat' first
   | (with_reducible exact ih0 _ _ _ _ _ _ _)
   | (with_reducible exact ih1 _ _ _ _ _ _ _ _)
   | (with_reducible exact ih2 _ _ _ _ _ _ _ _ _ _ _ _ _ _)
   | (with_reducible exact LeO.refl _)
   | (with_reducible exact LeO.none _)
   | (with_reducible refine LeO.ite ?_ ?_)
   | (with_reducible refine LeO.bind ?_ (fun _ => ?_))
   | exact ih0 _ _ _ _ _ _ _
   | exact ih1 _ _ _ _ _ _ _ _
   | exact ih2 _ _ _ _ _ _ _ _ _ _ _ _ _ _
   | exact LeO.none _
   | refine LeO.ite ?_ ?_
   | refine LeO.bind ?_ (fun _ => ?_)
  ·
   intro y0 y1 y2 y3 y4 y5 y6 y7
   unfold clinkerlaw05_NandOnce.j1
   repeat' first
   | (with_reducible exact ih0 _ _ _ _ _ _ _)
   | (with_reducible exact ih1 _ _ _ _ _ _ _ _)
   | (with_reducible exact ih2 _ _ _ _ _ _ _ _ _ _ _ _ _ _)
   | (with_reducible exact LeO.refl _)
   | (with_reducible exact LeO.none _)
   | (with_reducible refine LeO.ite ?_ ?_)
   | (with_reducible refine LeO.bind ?_ (fun _ => ?_))
   | exact ih0 _ _ _ _ _ _ _
   | exact ih1 _ _ _ _ _ _ _ _
   | exact ih2 _ _ _ _ _ _ _ _ _ _ _ _ _ _
   | exact LeO.none _
   | refine LeO.ite ?_ ?_
   | refine LeO.bind ?_ (fun _ => ?_)
  ·
   intro y0 y1 y2 y3 y4 y5 y6 y7 y8 y9 y10 y11 y12 y13
   unfold clinkerlaw05_NandOnce.j2
   repeat' first
   | (with_reducible exact ih0 _ _ _ _ _ _ _)
   | (with_reducible exact ih1 _ _ _ _ _ _ _ _)
   | (with_reducible exact ih2 _ _ _ _ _ _ _ _ _ _ _ _ _ _)
   | (with_reducible exact LeO.refl _)
   | (with_reducible exact LeO.none _)
   | (with_reducible refine LeO.ite ?_ ?_)
   | (with_reducible refine LeO.bind ?_ (fun _ => ?_))
   | exact ih0 _ _ _ _ _ _ _
   | exact ih1 _ _ _ _ _ _ _ _
   | exact ih2 _ _ _ _ _ _ _ _ _ _ _ _ _ _
   | exact LeO.none _
   | refine LeO.ite ?_ ?_
   | refine LeO.bind ?_ (fun _ => ?_)
theorem clinkerlaw05_NandOnce.mono : ∀ a0 a1 k, LeO (clinkerlaw05_NandOnce.f k a0 a1) (clinkerlaw05_NandOnce.f (k + 1) a0 a1) := by
 intro a0 a1 k
 obtain ⟨ih0, ih1, ih2⟩ := clinkerlaw05_NandOnce.mono_l k
 unfold clinkerlaw05_NandOnce.f
 repeat' first
   | (with_reducible exact ih0 _ _ _ _ _ _ _)
   | (with_reducible exact ih1 _ _ _ _ _ _ _ _)
   | (with_reducible exact ih2 _ _ _ _ _ _ _ _ _ _ _ _ _ _)
   | (with_reducible exact LeO.refl _)
   | (with_reducible exact LeO.none _)
   | (with_reducible refine LeO.ite ?_ ?_)
   | (with_reducible refine LeO.bind ?_ (fun _ => ?_))
   | exact ih0 _ _ _ _ _ _ _
   | exact ih1 _ _ _ _ _ _ _ _
   | exact ih2 _ _ _ _ _ _ _ _ _ _ _ _ _ _
   | exact LeO.none _
   | refine LeO.ite ?_ ?_
   | refine LeO.bind ?_ (fun _ => ?_)
def clinkerlaw05_NandOnce.T8 : Bool × List (List Nat × List Nat) := (true, [([], []), ([], []), ([0, 1], [0, 1]), ([2], [2]), ([3], [3]), ([4], [4]), ([5], [5]), ([], []), ([], []), ([7, 8], [7, 8]), ([9], [9]), ([10], [10]), ([11], [11]), ([12], [12]), ([6, 0, 1, 2, 3, 4, 5, 6], [6]), ([13, 14, 0, 1, 2, 3, 4, 5, 6, 7, 8, 9, 10, 11, 12, 13, 14], [13])])
def clinkerlaw05_NandOnce.B8 : List Nat := [0, 0, 3, 7, 15, 31, 63, 0, 0, 384, 896, 1920, 3968, 8064, 127, 32767]
theorem clinkerlaw05_NandOnce.tab8 : rtab .any (opsOf Try.f8 8) = clinkerlaw05_NandOnce.T8 := by kernel_rfl
theorem clinkerlaw05_NandOnce.bits8 : waitsOk clinkerlaw05_NandOnce.T8.2 clinkerlaw05_NandOnce.B8 = true := by kernel_rfl
def clinkerlaw05_NandOnce.T10 : Bool × List (List Nat × List Nat) := (true, [([], []), ([], []), ([], []), ([], []), ([], []), ([3, 4], [3, 4]), ([5], [5]), ([6], [6]), ([7], [7]), ([], []), ([], []), ([9, 10], [9, 10]), ([11], [11]), ([12], [12]), ([0, 1, 2, 8, 13, 13], [0, 1, 2, 8, 13]), ([14], [14]), ([15], [15]), ([15], [15]), ([], []), ([18, 16, 14, 0, 1, 2, 3, 4, 5, 6, 7, 8, 9, 10, 11, 12, 13, 14, 15, 16, 18], [16, 18]), ([17, 19, 0, 1, 2, 3, 4, 5, 6, 7, 8, 9, 10, 11, 12, 13, 14, 15, 16, 17, 18, 19], [17])])
def clinkerlaw05_NandOnce.B10 : List Nat := [0, 0, 0, 0, 0, 24, 56, 120, 248, 0, 0, 1536, 3584, 7680, 16383, 32767, 65535, 65535, 0, 393215, 1048575]
theorem clinkerlaw05_NandOnce.tab10 : rtab .any (opsOf Try.f8 10) = clinkerlaw05_NandOnce.T10 := by kernel_rfl
theorem clinkerlaw05_NandOnce.bits10 : waitsOk clinkerlaw05_NandOnce.T10.2 clinkerlaw05_NandOnce.B10 = true := by kernel_rfl
set_option maxHeartbeats 8000000 in
set_option maxRecDepth 100000 in
theorem clinkerlaw05_NandOnce.calls (k : Nat) (A0 : Option Addr) (c0 : Nat) (l0 : List (S37)) (a1 : Int) (r : Bool) (hrt : Aside0 (r = true)) (w : World) (hr0 : Kd.C k37 w A0 l0.length l0) (hc0 : l0.length ≤ c0) (h : clinkerlaw05_NandOnce.f k l0 a1 = some r) :
  Calls Try.prog 8 #[.slice A0 l0.length c0, .int .u8 a1] w fun e w' => e = .returned (.bool r) ∧ Below w.heap.size w w' := by
 have hu27 := Try.underlying27
 have hu46 := Try.underlying46
 have hu37 := Try.underlying37
 have hu41 := Try.underlying41
 have HR0 := Aside0.mk hr0
 have HC0 := Aside0.mk hc0
 clear hr0 hc0
 have HB := Aside0.mk (Below.refl w.heap.size w)
 have H : ((clinkerlaw05_awake.f).bind fun t205 => (if t205 = true then ((nand_New.f 2 (wrap64 (1 + (Int.tmod (wrap64 (a1)) 5))) ([] : List Int)).bind fun bt206 => (clinkerlaw05_NandOnce.l0 k l0 t205 0 bt206.1 bt206.2.1 bt206.2.2.1 bt206.2.2.2.1)) else (some false))) = some r := h
 clear h
 replace H := Option.bind_eq_some_iff.mp H
 obtain ⟨t205, A30, H⟩ := H
 replace H : (if t205 = true then ((nand_New.f 2 (wrap64 (1 + (Int.tmod (wrap64 (a1)) 5))) ([] : List Int)).bind fun bt206 => (clinkerlaw05_NandOnce.l0 k l0 t205 0 bt206.1 bt206.2.1 bt206.2.2.1 bt206.2.2.2.1)) else (some false)) = some r := H
 have A3 := Aside0.mk A30
 clear A30
 by_cases c4 : t205 = true
 ·
  subst c4
  have H1 : ((nand_New.f 2 (wrap64 (1 + (Int.tmod (wrap64 (a1)) 5))) ([] : List Int)).bind fun bt206 => (clinkerlaw05_NandOnce.l0 k l0 true 0 bt206.1 bt206.2.1 bt206.2.2.1 bt206.2.2.2.1)) = some r := by rw [if_pos rfl] at H; exact H
  clear H
  have H := H1
  clear H1
  replace H := Option.bind_eq_some_iff.mp H
  obtain ⟨⟨t206, t209, t210, t211, t212⟩, A50, H⟩ := H
  replace H : (clinkerlaw05_NandOnce.l0 k l0 true 0 t206 t209 t210 t211) = some r := H
  have A5 := Aside0.mk A50
  clear A50
  have H' := Aside0.mk H
  clear H
  go_enter Try.func8, Try.ntmps8
  go_wp2_with (first | ((with_reducible refine gate_callee (f := 11) rfl ?_); refine goesL_ (some 15) rfl rfl Try.func11 (by kernel_rfl) rfl #[] rfl (by (try simp only [List.map_toArray, List.map_cons, List.map_nil]); first | done | rfl | (simp only [List.length_drop, List.length_take]; rfl)) ?_; (with_reducible refine (clinkerlaw05_awake.calls  true _ A3.out).mono ?_); rintro e w6 ⟨rfl, hb⟩; refine ⟨_, rfl, ?_⟩; have n0_ := Aside0.mk (below_step (by repeat (first | exact HB.out | apply below_alloc | apply pw_below_drewN | apply below_drew1)) hb); clear HB; have HB := n0_; clear n0_; (try clear hb); (try clear hb2); (try clear hk); (try clear hi)) | ((with_reducible refine gate_callee (f := 12) rfl ?_); refine goesL_ (some 23) rfl rfl Try.func12 (by kernel_rfl) rfl #[.int .i64 2, .int .i64 (wrap64 (1 + (Int.tmod (wrap64 (a1)) 5))), .slice none 0 0] rfl (by (try simp only [List.map_toArray, List.map_cons, List.map_nil]); first | done | rfl | (simp only [List.length_drop, List.length_take]; rfl)) ?_; (refine (nand_New.calls 2 (wrap64 (1 + (Int.tmod (wrap64 (a1)) 5))) _ _ ([] : List Int) t206 t209 t210 t211 t212 _ ?side1 ?side2 A5.out).mono ?_); (case side1 => exact Kd.C_nil _ _); (case side2 => exact Nat.le_refl _); rintro e w7 ⟨v207, rfl, ho0, hb⟩; refine ⟨_, rfl, ?_⟩; have n0_ := Aside0.mk (Kd.V_lower (Kd.V_mono (ok' := fun k_ => True) ho0 (fun k_ hk_ => trivial)) (below_size (by repeat (first | exact HB.out | apply below_alloc | apply pw_below_drewN | apply below_drew1)))); have n1_ := Aside0.mk (below_step (by repeat (first | exact HB.out | apply below_alloc | apply pw_below_drewN | apply below_drew1)) hb); clear HB; have HO208 := n0_; have HB := n1_; clear n0_ n1_; (try clear hb); (try clear hb2); (try clear hk); (try clear hi); (try clear ho0)) | ((with_reducible refine gate_dst (N := 6) rfl ?_); refine box_event ?hg (N := 6) ?hd (cs := #[.slice none 0 0, .bool false, .bool false, .int .i64 0]) (t := 27) ?hr ?_; (case hd => rfl); (case hg => rfl); (case hr => first | (go_simp; done) | (go_simp; rfl)); intro gb213 hg w8 hbox hb; have n0_ := Aside0.mk (Kd.V_below (Kd.V_elderB (by (with_reducible repeat (first | apply Kd.V_alloc | apply Kd.V_drewN | apply Kd.V_drew)); exact HO208.out) gb213 (Nat.le_of_eq hg.symm)) hb); have n1_ := Aside0.mk (below_step (by repeat (first | exact HB.out | apply below_alloc | apply pw_below_drewN | apply below_drew1)) hb); have n2_ := Aside0.mk (hbox); have n3_ := Aside0.mk ((by rw [hg]; exact (below_size (by repeat (first | exact HB.out | apply below_alloc | apply pw_below_drewN | apply below_drew1))) : w.heap.size ≤ gb213)); have n4_ := Aside0.mk ((by rw [hg]; exact (below_size (by repeat (first | exact HB.out | apply below_alloc | apply pw_below_drewN | apply below_drew1))) : w.heap.size ≤ gb213)); clear HO208; clear HB; have HO208 := n0_; have HB := n1_; have BK213 := n2_; have GW213 := n3_; have GE213 := n4_; clear n0_ n1_ n2_ n3_ n4_; clear hb hbox hg; obtain ⟨Ao9, co9, eo9⟩ := Kd.V_slice HO208.out; subst eo9; have hcz10_0 : w8.cell? ⟨gb213, 0, none⟩ = some (.slice none 0 0) := (blk_cell BK213.out 0).trans rfl; have hcz10_1 : w8.cell? ⟨gb213, 1, none⟩ = some (.bool false) := (blk_cell BK213.out 1).trans rfl; have hcz10_2 : w8.cell? ⟨gb213, 2, none⟩ = some (.bool false) := (blk_cell BK213.out 2).trans rfl; have hcz10_3 : w8.cell? ⟨gb213, 3, none⟩ = some (.int .i64 0) := (blk_cell BK213.out 3).trans rfl; have hfz10_0 := blk_frozen BK213.out 0; have hfz10_1 := blk_frozen BK213.out 1; have hfz10_2 := blk_frozen BK213.out 2; have hfz10_3 := blk_frozen BK213.out 3))
  go_loopg [8] k (fun kq v8 w' => ∃ (x8_1 : Int) (x214000_1 : List (S44)) (x214001_1 : Bool) (x214002_1 : Bool) (x214003_1 : Int) (u214000 : Value), v8 = .int .i64 x8_1 ∧ Aside0 (clinkerlaw05_NandOnce.l0 kq l0 true x8_1 x214000_1 x214001_1 x214002_1 x214003_1 = some r) ∧ Aside0 (kq ≤ k) ∧ Aside0 (Kd.V k44 44 w' w.heap.size (fun k_ => k_ ≠ gb213) u214000 x214000_1) ∧ Aside0 (w'.heap[gb213]? = some (.cells #[u214000, .bool x214001_1, .bool x214002_1, .int .i64 x214003_1] 27 (0, 0))) ∧ Aside0 (Below w.heap.size w w'))
  case atStart => exact ⟨(0), (t206), (t209), (t210), (t211), (.slice Ao9 t206.length co9), (by first | rfl | (simp; done) | (simp [*]; done)), H', ⟨Nat.le_refl _⟩, ⟨by (with_reducible repeat (first | apply Kd.V_alloc | apply Kd.V_drewN | apply Kd.V_drew)); exact Kd.V_mono (Kd.V_far (p := ⟨gb213, 3, none⟩) (Kd.V_far (p := ⟨gb213, 2, none⟩) (Kd.V_far (p := ⟨gb213, 1, none⟩) (Kd.V_far (p := ⟨gb213, 0, none⟩) (Kd.V_mono HO208.out (fun k_ hk => (⟨hk, hk.2⟩ : _ ∧ k_ ≠ gb213))) (fun _ hk => hk.2) _) (fun _ hk => hk.2) (.bool t209)) (fun _ hk => hk.2) (.bool t210)) (fun _ hk => hk.2) _) (fun _ hk => hk.1.2)⟩, ⟨by (with_reducible repeat (first | apply blk_drewN | apply blk_drew | apply blk_alloc)); refine blk_put (cs := #[.slice Ao9 t206.length co9, .bool t209, .bool t210, .int .i64 0]) ?_ 3 _ rfl; (with_reducible repeat (first | apply blk_drewN | apply blk_drew | apply blk_alloc)); refine blk_put (cs := #[.slice Ao9 t206.length co9, .bool t209, .bool false, .int .i64 0]) ?_ 2 _ rfl; (with_reducible repeat (first | apply blk_drewN | apply blk_drew | apply blk_alloc)); refine blk_put (cs := #[.slice Ao9 t206.length co9, .bool false, .bool false, .int .i64 0]) ?_ 1 _ rfl; (with_reducible repeat (first | apply blk_drewN | apply blk_drew | apply blk_alloc)); refine blk_put (cs := #[.slice none 0 0, .bool false, .bool false, .int .i64 0]) ?_ 0 _ rfl; (with_reducible repeat (first | apply blk_drewN | apply blk_drew | apply blk_alloc)); exact BK213.out⟩, ⟨by repeat (first | exact HB.out | apply below_alloc | apply pw_below_drewN | apply below_drew1 | refine below_set ?_ GE213.out)⟩⟩
  case round =>
   clear H'
   try clear c1
   try clear p2
   try clear c4
   try clear p6
   try clear c8
   try clear hcz10_0
   try clear hcz10_1
   try clear hcz10_2
   try clear hcz10_3
   try clear hfz10_0
   try clear hfz10_1
   try clear hfz10_2
   try clear hfz10_3
   obtain ⟨x8_1, x214000_1, x214001_1, x214002_1, x214003_1, u214000, rfl, HA, HK1, HO_214000, BK213, HB⟩ := hrel
   cases gk with
   | zero => exact absurd HA.out (by simp [clinkerlaw05_NandOnce.l0])
   | succ k1 =>
    have H := HA.out
    clear HA
    simp only [clinkerlaw05_NandOnce.l0] at H
    have HC11 := Aside0.mk H
    clear H
    go_upto_region 6 with (fail)
    go_cut [33] (fun v33 wc => ∃ (kq : Nat) (x33_10 : Bool), v33 = .bool x33_10 ∧ Aside0 (clinkerlaw05_NandOnce.j1 kq l0 true x8_1 x33_10 x214000_1 x214001_1 x214002_1 x214003_1 = some r) ∧ Aside0 (kq ≤ k1) ∧ Aside0 (Kd.V k44 44 wc w.heap.size (fun k_ => k_ ≠ gb213) u214000 x214000_1) ∧ Aside0 (wc.heap[gb213]? = some (.cells #[u214000, .bool x214001_1, .bool x214002_1, .int .i64 x214003_1] 27 (0, 0))) ∧ Aside0 (Below w.heap.size w wc))
    case first =>
     have H := HC11.out
     clear HC11
     by_cases c12 : x8_1 < (l0.length : Int)
     ·
      rw [if_pos c12] at H
      have c12b0 : decide (x8_1 < (l0.length : Int)) = true := decide_eq_true c12
      clear c12
      (first | rw [c12b0] | (simp only [i64_w, i32_w]; rw [c12b0]) | skip)
      have H' := Aside0.mk H
      clear H
      go_wp2
      go_meet
      case rel => exact ⟨_, (decide (x8_1 < 12)), (by first | rfl | (simp; done) | (simp [*]; done)), H', ⟨by have := HK1.out; first | omega | exact Nat.le_refl _⟩, ⟨by (with_reducible repeat (first | apply Kd.V_alloc | apply Kd.V_drewN | apply Kd.V_drew)); exact HO_214000.out⟩, ⟨by (with_reducible repeat (first | apply blk_drewN | apply blk_drew | apply blk_alloc)); exact BK213.out⟩, ⟨by repeat (first | exact HB.out | apply below_alloc | apply pw_below_drewN | apply below_drew1 | refine below_set ?_ GE213.out)⟩⟩
     ·
      rw [if_neg c12] at H
      have c12b0 : decide (x8_1 < (l0.length : Int)) = false := decide_eq_false c12
      clear c12
      (first | rw [c12b0] | (simp only [i64_w, i32_w]; rw [c12b0]) | skip)
      have H' := Aside0.mk H
      clear H
      go_wp2
      go_meet
      case rel => exact ⟨_, (false), (by first | rfl | (simp; done) | (simp [*]; done)), H', ⟨by have := HK1.out; first | omega | exact Nat.le_refl _⟩, ⟨by (with_reducible repeat (first | apply Kd.V_alloc | apply Kd.V_drewN | apply Kd.V_drew)); exact HO_214000.out⟩, ⟨by (with_reducible repeat (first | apply blk_drewN | apply blk_drew | apply blk_alloc)); exact BK213.out⟩, ⟨by repeat (first | exact HB.out | apply below_alloc | apply pw_below_drewN | apply below_drew1 | refine below_set ?_ GE213.out)⟩⟩
    case rest =>
     clear HC11
     try clear c1
     try clear p2
     try clear c4
     try clear p6
     try clear c8
     try clear c11
     try clear c12
     try clear c12b0
     try clear hcz10_0
     try clear hcz10_1
     try clear hcz10_2
     try clear hcz10_3
     try clear hfz10_0
     try clear hfz10_1
     try clear hfz10_2
     try clear hfz10_3
     try clear p2
     try clear p6
     obtain ⟨kq, x33_10, rfl, HA, HJ10, HO_214000, BK213, HB⟩ := hcut
     cases kq with
     | zero => exact absurd HA.out (by simp [clinkerlaw05_NandOnce.j1])
     | succ kj10 =>
      have H := HA.out
      clear HA
      simp only [clinkerlaw05_NandOnce.j1] at H
      by_cases c13 : x33_10 = true
      ·
       subst c13
       have H1 : (if 0 ≤ x8_1 then (if x8_1 < (l0.length : Int) then ((nand_Read.f x214000_1 x214001_1 x214002_1 x214003_1 (Int.tmod (wrap64 ((rd_T37 l0 x8_1).f1)) 2) (Int.tmod (wrap64 ((rd_T37 l0 x8_1).f2)) 6)).bind fun bt216 => ((clinkerlaw05_Fate.f ((rd_T37 l0 x8_1).f0) ((rd_T37 l0 x8_1).f1) ((rd_T37 l0 x8_1).f2) ((rd_T37 l0 x8_1).f3) ((rd_T37 l0 x8_1).f4) ((rd_T37 l0 x8_1).f5)).bind fun bt223 => ((nand_Program.f x214000_1 x214001_1 x214002_1 x214003_1 (Int.tmod (wrap64 ((rd_T37 l0 x8_1).f1)) 2) (Int.tmod (wrap64 ((rd_T37 l0 x8_1).f2)) 6) false ((rd_T37 l0 x8_1).f4) (⟨#[]⟩ : ByteArray) bt223.1 bt223.2.1 bt223.2.2.1 bt223.2.2.2).bind fun bt227 => (if bt216.2.2.2 = 0 then (if bt216.1 = true then (if bt227.2.1 = true then (clinkerlaw05_NandOnce.j2 kj10 l0 true x8_1 (Int.tmod (wrap64 ((rd_T37 l0 x8_1).f1)) 2) bt227.2.2.2.2 (bt227.2.2.2.2 != 1) x214000_1 x214001_1 x214002_1 x214003_1 bt227.1 bt227.2.1 bt227.2.2.1 bt227.2.2.2.1) else (clinkerlaw05_NandOnce.j2 kj10 l0 true x8_1 (Int.tmod (wrap64 ((rd_T37 l0 x8_1).f1)) 2) bt227.2.2.2.2 true x214000_1 x214001_1 x214002_1 x214003_1 bt227.1 bt227.2.1 bt227.2.2.1 bt227.2.2.2.1)) else (clinkerlaw05_NandOnce.j2 kj10 l0 true x8_1 (Int.tmod (wrap64 ((rd_T37 l0 x8_1).f1)) 2) bt227.2.2.2.2 false x214000_1 x214001_1 x214002_1 x214003_1 bt227.1 bt227.2.1 bt227.2.2.1 bt227.2.2.2.1)) else (clinkerlaw05_NandOnce.j2 kj10 l0 true x8_1 (Int.tmod (wrap64 ((rd_T37 l0 x8_1).f1)) 2) bt227.2.2.2.2 false x214000_1 x214001_1 x214002_1 x214003_1 bt227.1 bt227.2.1 bt227.2.2.1 bt227.2.2.2.1))))) else (none)) else (none)) = some r := by rw [if_pos rfl] at H; exact H
       clear H
       have H := H1
       clear H1
       by_cases c14 : 0 ≤ x8_1
       ·
        rw [if_pos c14] at H
        have c14b0 : decide (0 ≤ x8_1) = true := decide_eq_true c14
        clear c14
        by_cases c15 : x8_1 < (l0.length : Int)
        ·
         rw [if_pos c15] at H
         have c15b0 : decide (x8_1 < (l0.length : Int)) = true := decide_eq_true c15
         clear c15
         replace H := Option.bind_eq_some_iff.mp H
         obtain ⟨⟨t216, t217, t218, t219⟩, A160, H⟩ := H
         replace H : ((clinkerlaw05_Fate.f ((rd_T37 l0 x8_1).f0) ((rd_T37 l0 x8_1).f1) ((rd_T37 l0 x8_1).f2) ((rd_T37 l0 x8_1).f3) ((rd_T37 l0 x8_1).f4) ((rd_T37 l0 x8_1).f5)).bind fun bt223 => ((nand_Program.f x214000_1 x214001_1 x214002_1 x214003_1 (Int.tmod (wrap64 ((rd_T37 l0 x8_1).f1)) 2) (Int.tmod (wrap64 ((rd_T37 l0 x8_1).f2)) 6) false ((rd_T37 l0 x8_1).f4) (⟨#[]⟩ : ByteArray) bt223.1 bt223.2.1 bt223.2.2.1 bt223.2.2.2).bind fun bt227 => (if t219 = 0 then (if t216 = true then (if bt227.2.1 = true then (clinkerlaw05_NandOnce.j2 kj10 l0 true x8_1 (Int.tmod (wrap64 ((rd_T37 l0 x8_1).f1)) 2) bt227.2.2.2.2 (bt227.2.2.2.2 != 1) x214000_1 x214001_1 x214002_1 x214003_1 bt227.1 bt227.2.1 bt227.2.2.1 bt227.2.2.2.1) else (clinkerlaw05_NandOnce.j2 kj10 l0 true x8_1 (Int.tmod (wrap64 ((rd_T37 l0 x8_1).f1)) 2) bt227.2.2.2.2 true x214000_1 x214001_1 x214002_1 x214003_1 bt227.1 bt227.2.1 bt227.2.2.1 bt227.2.2.2.1)) else (clinkerlaw05_NandOnce.j2 kj10 l0 true x8_1 (Int.tmod (wrap64 ((rd_T37 l0 x8_1).f1)) 2) bt227.2.2.2.2 false x214000_1 x214001_1 x214002_1 x214003_1 bt227.1 bt227.2.1 bt227.2.2.1 bt227.2.2.2.1)) else (clinkerlaw05_NandOnce.j2 kj10 l0 true x8_1 (Int.tmod (wrap64 ((rd_T37 l0 x8_1).f1)) 2) bt227.2.2.2.2 false x214000_1 x214001_1 x214002_1 x214003_1 bt227.1 bt227.2.1 bt227.2.2.1 bt227.2.2.2.1)))) = some r := H
         have A16 := Aside0.mk A160
         clear A160
         replace H := Option.bind_eq_some_iff.mp H
         obtain ⟨⟨t223, t224, t225, t226⟩, A170, H⟩ := H
         replace H : ((nand_Program.f x214000_1 x214001_1 x214002_1 x214003_1 (Int.tmod (wrap64 ((rd_T37 l0 x8_1).f1)) 2) (Int.tmod (wrap64 ((rd_T37 l0 x8_1).f2)) 6) false ((rd_T37 l0 x8_1).f4) (⟨#[]⟩ : ByteArray) t223 t224 t225 t226).bind fun bt227 => (if t219 = 0 then (if t216 = true then (if bt227.2.1 = true then (clinkerlaw05_NandOnce.j2 kj10 l0 true x8_1 (Int.tmod (wrap64 ((rd_T37 l0 x8_1).f1)) 2) bt227.2.2.2.2 (bt227.2.2.2.2 != 1) x214000_1 x214001_1 x214002_1 x214003_1 bt227.1 bt227.2.1 bt227.2.2.1 bt227.2.2.2.1) else (clinkerlaw05_NandOnce.j2 kj10 l0 true x8_1 (Int.tmod (wrap64 ((rd_T37 l0 x8_1).f1)) 2) bt227.2.2.2.2 true x214000_1 x214001_1 x214002_1 x214003_1 bt227.1 bt227.2.1 bt227.2.2.1 bt227.2.2.2.1)) else (clinkerlaw05_NandOnce.j2 kj10 l0 true x8_1 (Int.tmod (wrap64 ((rd_T37 l0 x8_1).f1)) 2) bt227.2.2.2.2 false x214000_1 x214001_1 x214002_1 x214003_1 bt227.1 bt227.2.1 bt227.2.2.1 bt227.2.2.2.1)) else (clinkerlaw05_NandOnce.j2 kj10 l0 true x8_1 (Int.tmod (wrap64 ((rd_T37 l0 x8_1).f1)) 2) bt227.2.2.2.2 false x214000_1 x214001_1 x214002_1 x214003_1 bt227.1 bt227.2.1 bt227.2.2.1 bt227.2.2.2.1))) = some r := H
         have A17 := Aside0.mk A170
         clear A170
         replace H := Option.bind_eq_some_iff.mp H
         obtain ⟨⟨t227, t230, t231, t232, t233⟩, A180, H⟩ := H
         replace H : (if t219 = 0 then (if t216 = true then (if t230 = true then (clinkerlaw05_NandOnce.j2 kj10 l0 true x8_1 (Int.tmod (wrap64 ((rd_T37 l0 x8_1).f1)) 2) t233 (t233 != 1) x214000_1 x214001_1 x214002_1 x214003_1 t227 t230 t231 t232) else (clinkerlaw05_NandOnce.j2 kj10 l0 true x8_1 (Int.tmod (wrap64 ((rd_T37 l0 x8_1).f1)) 2) t233 true x214000_1 x214001_1 x214002_1 x214003_1 t227 t230 t231 t232)) else (clinkerlaw05_NandOnce.j2 kj10 l0 true x8_1 (Int.tmod (wrap64 ((rd_T37 l0 x8_1).f1)) 2) t233 false x214000_1 x214001_1 x214002_1 x214003_1 t227 t230 t231 t232)) else (clinkerlaw05_NandOnce.j2 kj10 l0 true x8_1 (Int.tmod (wrap64 ((rd_T37 l0 x8_1).f1)) 2) t233 false x214000_1 x214001_1 x214002_1 x214003_1 t227 t230 t231 t232)) = some r := H
         have A18 := Aside0.mk A180
         clear A180
         have HC19 := Aside0.mk H
         clear H
         try go_wp2
         have n0_ := Aside0.mk (Kd.V_drew HO_214000.out)
         have n1_ := Aside0.mk (blk_drew BK213.out)
         have n2_ := Aside0.mk (below_drew1 HB.out)
         clear HO_214000
         clear BK213
         clear HB
         have HO_214000 := n0_
         have BK213 := n1_
         have HB := n2_
         clear n0_ n1_ n2_
         have p214 : 0 ≤ (x8_1 : Int) := of_decide_eq_true (by first | (with_reducible assumption) | assumption)
         have q214 : x8_1 < (l0.length : Int) := of_decide_eq_true (by first | (with_reducible assumption) | assumption)
         obtain ⟨ad214, e214, hx214_0, hx214_1, hx214_2, hx214_3, hx214_4, hx214_5⟩ := at_T37 HR0.out x8_1 p214 q214
         have hw214_5 := hx214_5
         have hw214_4 := hx214_4
         have hw214_3 := hx214_3
         have hw214_2 := hx214_2
         have hw214_1 := hx214_1
         have hw214_0 := hx214_0
         cases e214
         replace hx214_0 := (HB.out.cell (World.block_lt_of_cell? w _ hx214_0)).trans hx214_0
         replace hx214_1 := (HB.out.cell (World.block_lt_of_cell? w _ hx214_1)).trans hx214_1
         replace hx214_2 := (HB.out.cell (World.block_lt_of_cell? w _ hx214_2)).trans hx214_2
         replace hx214_3 := (HB.out.cell (World.block_lt_of_cell? w _ hx214_3)).trans hx214_3
         replace hx214_4 := (HB.out.cell (World.block_lt_of_cell? w _ hx214_4)).trans hx214_4
         replace hx214_5 := (HB.out.cell (World.block_lt_of_cell? w _ hx214_5)).trans hx214_5
         replace p214 := eq_true p214
         replace q214 := eq_true q214
         have p215 : 0 ≤ (x8_1 : Int) := of_decide_eq_true (by first | (with_reducible assumption) | assumption)
         have q215 : x8_1 < (l0.length : Int) := of_decide_eq_true (by first | (with_reducible assumption) | assumption)
         obtain ⟨ad215, e215, hx215_0, hx215_1, hx215_2, hx215_3, hx215_4, hx215_5⟩ := at_T37 HR0.out x8_1 p215 q215
         have hw215_5 := hx215_5
         have hw215_4 := hx215_4
         have hw215_3 := hx215_3
         have hw215_2 := hx215_2
         have hw215_1 := hx215_1
         have hw215_0 := hx215_0
         obtain rfl : ad214 = ad215 := (by injection e215)
         replace hx215_0 := (HB.out.cell (World.block_lt_of_cell? w _ hx215_0)).trans hx215_0
         replace hx215_1 := (HB.out.cell (World.block_lt_of_cell? w _ hx215_1)).trans hx215_1
         replace hx215_2 := (HB.out.cell (World.block_lt_of_cell? w _ hx215_2)).trans hx215_2
         replace hx215_3 := (HB.out.cell (World.block_lt_of_cell? w _ hx215_3)).trans hx215_3
         replace hx215_4 := (HB.out.cell (World.block_lt_of_cell? w _ hx215_4)).trans hx215_4
         replace hx215_5 := (HB.out.cell (World.block_lt_of_cell? w _ hx215_5)).trans hx215_5
         replace p215 := eq_true p215
         replace q215 := eq_true q215
         refine start_ (n := 16) (S := fun w' => w'.cell? (ad214.add ((x8_1).toNat * 6)) = some (.int .u8 ((rd_T37 l0 x8_1).f0)) ∧ w'.cell? ⟨(ad214.add ((x8_1).toNat * 6)).block, (ad214.add ((x8_1).toNat * 6)).off + 1, none⟩ = some (.int .u8 ((rd_T37 l0 x8_1).f1)) ∧ w'.cell? ⟨(ad214.add ((x8_1).toNat * 6)).block, (ad214.add ((x8_1).toNat * 6)).off + 2, none⟩ = some (.int .u8 ((rd_T37 l0 x8_1).f2)) ∧ w'.cell? ⟨(ad214.add ((x8_1).toNat * 6)).block, (ad214.add ((x8_1).toNat * 6)).off + 3, none⟩ = some (.int .u8 ((rd_T37 l0 x8_1).f3)) ∧ w'.cell? ⟨(ad214.add ((x8_1).toNat * 6)).block, (ad214.add ((x8_1).toNat * 6)).off + 4, none⟩ = some (.string ((rd_T37 l0 x8_1).f4)) ∧ w'.cell? ⟨(ad214.add ((x8_1).toNat * 6)).block, (ad214.add ((x8_1).toNat * 6)).off + 5, none⟩ = some (.string ((rd_T37 l0 x8_1).f5)) ∧ w'.cell? (ad214.add ((x8_1).toNat * 6)) = some (.int .u8 ((rd_T37 l0 x8_1).f0)) ∧ w'.cell? ⟨(ad214.add ((x8_1).toNat * 6)).block, (ad214.add ((x8_1).toNat * 6)).off + 1, none⟩ = some (.int .u8 ((rd_T37 l0 x8_1).f1)) ∧ w'.cell? ⟨(ad214.add ((x8_1).toNat * 6)).block, (ad214.add ((x8_1).toNat * 6)).off + 2, none⟩ = some (.int .u8 ((rd_T37 l0 x8_1).f2)) ∧ w'.cell? ⟨(ad214.add ((x8_1).toNat * 6)).block, (ad214.add ((x8_1).toNat * 6)).off + 3, none⟩ = some (.int .u8 ((rd_T37 l0 x8_1).f3)) ∧ w'.cell? ⟨(ad214.add ((x8_1).toNat * 6)).block, (ad214.add ((x8_1).toNat * 6)).off + 4, none⟩ = some (.string ((rd_T37 l0 x8_1).f4)) ∧ w'.cell? ⟨(ad214.add ((x8_1).toNat * 6)).block, (ad214.add ((x8_1).toNat * 6)).off + 5, none⟩ = some (.string ((rd_T37 l0 x8_1).f5))) (ds := []) #[false, false, false, false, false, false, false, false, false, false, false, false, false, false, false, false] (by kernel_rfl) rfl rfl ⟨((HB.out.cell (World.block_lt_of_cell? w _ hw214_0)).trans hw214_0), ((HB.out.cell (World.block_lt_of_cell? w _ hw214_1)).trans hw214_1), ((HB.out.cell (World.block_lt_of_cell? w _ hw214_2)).trans hw214_2), ((HB.out.cell (World.block_lt_of_cell? w _ hw214_3)).trans hw214_3), ((HB.out.cell (World.block_lt_of_cell? w _ hw214_4)).trans hw214_4), ((HB.out.cell (World.block_lt_of_cell? w _ hw214_5)).trans hw214_5), ((HB.out.cell (World.block_lt_of_cell? w _ hw215_0)).trans hw215_0), ((HB.out.cell (World.block_lt_of_cell? w _ hw215_1)).trans hw215_1), ((HB.out.cell (World.block_lt_of_cell? w _ hw215_2)).trans hw215_2), ((HB.out.cell (World.block_lt_of_cell? w _ hw215_3)).trans hw215_3), ((HB.out.cell (World.block_lt_of_cell? w _ hw215_4)).trans hw215_4), ((HB.out.cell (World.block_lt_of_cell? w _ hw215_5)).trans hw215_5)⟩ (fun hHeld => ?_); refine with_tabW clinkerlaw05_NandOnce.tab8 clinkerlaw05_NandOnce.bits8 (fun HT_ HW_ => ?_)
         generalize wc.drew = w20 at HO_214000 BK213 HB hx214_0 hx214_1 hx214_2 hx214_3 hx214_4 hx214_5 hx215_0 hx215_1 hx215_2 hx215_3 hx215_4 hx215_5 hHeld ⊢
         refine pure_ (i := 0) (N := some 36) (v := ?_) (a' := ?_) #[true, false, false, false, false, false, false, false, false, false, false, false, false, false, false, false] rfl rfl (any_of HT_.out (by kernel_rfl)) (fun _ _ _ h => h) (Or.inl ⟨by rfl, ?_⟩) ?_ ?_
         rotate_left
         ·
          intro w'
          go_simp
          with_reducible rfl
         rotate_left
         ·
          simp only [Act.put, List.setIfInBounds_toArray, List.set_cons_zero, List.set_cons_succ, i64_w, i32_w]
          rfl
         refine pure_ (i := 1) (N := some 37) (v := ?_) (a' := ?_) #[true, true, false, false, false, false, false, false, false, false, false, false, false, false, false, false] rfl rfl (any_of HT_.out (by kernel_rfl)) (fun _ _ _ h => h) (Or.inl ⟨by rfl, ?_⟩) ?_ ?_
         rotate_left
         ·
          intro w'
          go_simp
          with_reducible rfl
         rotate_left
         ·
          simp only [Act.put, List.setIfInBounds_toArray, List.set_cons_zero, List.set_cons_succ, i64_w, i32_w]
          rfl
         refine pure_ (i := 2) (N := some 38) (v := ?_) (a' := ?_) #[true, true, true, false, false, false, false, false, false, false, false, false, false, false, false, false] rfl rfl (any_of HT_.out (by kernel_rfl)) (fun _ _ _ h => h) (Or.inl ⟨by rfl, ?_⟩) ?_ ?_
         rotate_left
         ·
          intro w'
          go_simp
          with_reducible rfl
         rotate_left
         ·
          simp only [Act.put, List.setIfInBounds_toArray, List.set_cons_zero, List.set_cons_succ, i64_w, i32_w]
          rfl
         refine pure_ (i := 3) (N := some 39) (v := ?_) (a' := ?_) #[true, true, true, true, false, false, false, false, false, false, false, false, false, false, false, false] rfl rfl (any_of HT_.out (by kernel_rfl)) (fun _ _ _ h => h) (Or.inl ⟨by rfl, ?_⟩) ?_ ?_
         rotate_left
         ·
          intro w'
          go_simp
          with_reducible rfl
         rotate_left
         ·
          simp only [Act.put, List.setIfInBounds_toArray, List.set_cons_zero, List.set_cons_succ, i64_w, i32_w]
          rfl
         refine pure_ (i := 7) (N := some 43) (v := ?_) (a' := ?_) #[true, true, true, true, false, false, false, true, false, false, false, false, false, false, false, false] rfl rfl (any_of HT_.out (by kernel_rfl)) (fun _ _ _ h => h) (Or.inl ⟨by rfl, ?_⟩) ?_ ?_
         rotate_left
         ·
          intro w'
          go_simp
          with_reducible rfl
         rotate_left
         ·
          simp only [Act.put, List.setIfInBounds_toArray, List.set_cons_zero, List.set_cons_succ, i64_w, i32_w]
          rfl
         refine pure_ (i := 8) (N := some 44) (v := ?_) (a' := ?_) #[true, true, true, true, false, false, false, true, true, false, false, false, false, false, false, false] rfl rfl (any_of HT_.out (by kernel_rfl)) (fun _ _ _ h => h) (Or.inl ⟨by rfl, ?_⟩) ?_ ?_
         rotate_left
         ·
          intro w'
          go_simp
          with_reducible rfl
         rotate_left
         ·
          simp only [Act.put, List.setIfInBounds_toArray, List.set_cons_zero, List.set_cons_succ, i64_w, i32_w]
          rfl
         refine pure_ (i := 9) (N := some 45) (v := ?_) (a' := ?_) #[true, true, true, true, false, false, false, true, true, true, false, false, false, false, false, false] rfl rfl (any_of HT_.out (by kernel_rfl)) (fun _ _ _ h => h) (Or.inl ⟨by rfl, ?_⟩) ?_ ?_
         rotate_left
         ·
          intro w'
          go_simp
          with_reducible rfl
         rotate_left
         ·
          simp only [Act.put, List.setIfInBounds_toArray, List.set_cons_zero, List.set_cons_succ, i64_w, i32_w]
          rfl
         refine pure_ (i := 10) (N := some 46) (v := ?_) (a' := ?_) #[true, true, true, true, false, false, false, true, true, true, true, false, false, false, false, false] rfl rfl (any_of HT_.out (by kernel_rfl)) (fun _ _ _ h => h) (Or.inl ⟨by rfl, ?_⟩) ?_ ?_
         rotate_left
         ·
          intro w'
          go_simp
          with_reducible rfl
         rotate_left
         ·
          simp only [Act.put, List.setIfInBounds_toArray, List.set_cons_zero, List.set_cons_succ, i64_w, i32_w]
          rfl
         refine take_ (i := 4) (N := some 40) (v := ?_) (a' := ?_) #[true, true, true, true, true, false, false, true, true, true, true, false, false, false, false, false] rfl rfl (take_ofW HT_.out HW_.out (by kernel_rfl)) (fun _ _ _ h => h) (Or.inl ⟨by rfl, ?_⟩) hHeld ?_ ?_
         rotate_left
         ·
          rintro w' ⟨s0, s1, s2, s3, s4, s5, s6, s7, s8, s9, s10, s11⟩
          go_simp
          with_reducible rfl
         rotate_left
         ·
          simp only [Act.put, List.setIfInBounds_toArray, List.set_cons_zero, List.set_cons_succ, i64_w, i32_w]
          rfl
         refine pure_ (i := 5) (N := some 41) (v := ?_) (a' := ?_) #[true, true, true, true, true, true, false, true, true, true, true, false, false, false, false, false] rfl rfl (any_of HT_.out (by kernel_rfl)) (fun _ _ _ h => h) (Or.inl ⟨by rfl, ?_⟩) ?_ ?_
         rotate_left
         ·
          intro w'
          go_simp
          with_reducible rfl
         rotate_left
         ·
          simp only [Act.put, List.setIfInBounds_toArray, List.set_cons_zero, List.set_cons_succ, i64_w, i32_w]
          rfl
         refine pure_ (i := 6) (N := some 42) (v := ?_) (a' := ?_) #[true, true, true, true, true, true, true, true, true, true, true, false, false, false, false, false] rfl rfl (any_of HT_.out (by kernel_rfl)) (fun _ _ _ h => h) (Or.inl ⟨by rfl, ?_⟩) ?_ ?_
         rotate_left
         ·
          intro w'
          go_simp
          with_reducible rfl
         rotate_left
         ·
          simp only [Act.put, List.setIfInBounds_toArray, List.set_cons_zero, List.set_cons_succ, i64_w, i32_w]
          rfl
         refine pure_ (i := 14) (N := some 9) (v := ?_) (a' := ?_) #[true, true, true, true, true, true, true, true, true, true, true, false, false, false, true, false] rfl rfl (any_of HT_.out (by kernel_rfl)) (fun _ _ _ h => h) (Or.inl ⟨by rfl, ?_⟩) ?_ ?_
         rotate_left
         ·
          intro w'
          go_simp
          with_reducible rfl
         rotate_left
         ·
          simp only [Act.put, List.setIfInBounds_toArray, List.set_cons_zero, List.set_cons_succ, i64_w, i32_w]
          rfl
         refine take_ (i := 11) (N := some 47) (v := ?_) (a' := ?_) #[true, true, true, true, true, true, true, true, true, true, true, true, false, false, true, false] rfl rfl (take_ofW HT_.out HW_.out (by kernel_rfl)) (fun _ _ _ h => h) (Or.inl ⟨by rfl, ?_⟩) hHeld ?_ ?_
         rotate_left
         ·
          rintro w' ⟨s0, s1, s2, s3, s4, s5, s6, s7, s8, s9, s10, s11⟩
          go_simp
          with_reducible rfl
         rotate_left
         ·
          simp only [Act.put, List.setIfInBounds_toArray, List.set_cons_zero, List.set_cons_succ, i64_w, i32_w]
          rfl
         refine pure_ (i := 12) (N := some 48) (v := ?_) (a' := ?_) #[true, true, true, true, true, true, true, true, true, true, true, true, true, false, true, false] rfl rfl (any_of HT_.out (by kernel_rfl)) (fun _ _ _ h => h) (Or.inl ⟨by rfl, ?_⟩) ?_ ?_
         rotate_left
         ·
          intro w'
          go_simp
          with_reducible rfl
         rotate_left
         ·
          simp only [Act.put, List.setIfInBounds_toArray, List.set_cons_zero, List.set_cons_succ, i64_w, i32_w]
          rfl
         refine pure_ (i := 13) (N := some 49) (v := ?_) (a' := ?_) #[true, true, true, true, true, true, true, true, true, true, true, true, true, true, true, false] rfl rfl (any_of HT_.out (by kernel_rfl)) (fun _ _ _ h => h) (Or.inl ⟨by rfl, ?_⟩) ?_ ?_
         rotate_left
         ·
          intro w'
          go_simp
          with_reducible rfl
         rotate_left
         ·
          simp only [Act.put, List.setIfInBounds_toArray, List.set_cons_zero, List.set_cons_succ, i64_w, i32_w]
          rfl
         refine pure_ (i := 15) (N := some 10) (v := ?_) (a' := ?_) #[true, true, true, true, true, true, true, true, true, true, true, true, true, true, true, true] rfl rfl (any_of HT_.out (by kernel_rfl)) (fun _ _ _ h => h) (Or.inl ⟨by rfl, ?_⟩) ?_ ?_
         rotate_left
         ·
          intro w'
          go_simp
          with_reducible rfl
         rotate_left
         ·
          simp only [Act.put, List.setIfInBounds_toArray, List.set_cons_zero, List.set_cons_succ, i64_w, i32_w]
          rfl
         refine done_ (done_of HT_.out (by kernel_rfl)) ?_
         have hcz21_0 : w20.cell? ⟨gb213, 0, none⟩ = some (u214000) := (blk_cell BK213.out 0).trans rfl
         have hcz21_1 : w20.cell? ⟨gb213, 1, none⟩ = some (.bool x214001_1) := (blk_cell BK213.out 1).trans rfl
         have hcz21_2 : w20.cell? ⟨gb213, 2, none⟩ = some (.bool x214002_1) := (blk_cell BK213.out 2).trans rfl
         have hcz21_3 : w20.cell? ⟨gb213, 3, none⟩ = some (.int .i64 x214003_1) := (blk_cell BK213.out 3).trans rfl
         have hfz21_0 := blk_frozen BK213.out 0
         have hfz21_1 := blk_frozen BK213.out 1
         have hfz21_2 := blk_frozen BK213.out 2
         have hfz21_3 := blk_frozen BK213.out 3
         obtain ⟨Ao22, co22, eo22⟩ := Kd.V_slice HO_214000.out
         subst eo22
         try go_wp2_with (first | ((with_reducible refine gate_callee (f := 18) rfl ?_); refine goesL_ (some 54) rfl rfl Try.func18 (by kernel_rfl) rfl #[.agg #[.slice Ao22 x214000_1.length co22, .bool x214001_1, .bool x214002_1, .int .i64 x214003_1], .int .i64 (Int.tmod (wrap64 ((rd_T37 l0 x8_1).f1)) 2), .int .i64 (Int.tmod (wrap64 ((rd_T37 l0 x8_1).f2)) 6)] rfl (by (try simp only [List.map_toArray, List.map_cons, List.map_nil]); first | done | rfl | (simp only [List.length_drop, List.length_take]; rfl)) ?_; (with_reducible refine (nand_Read.calls _ _ x214000_1 x214001_1 x214002_1 x214003_1 (Int.tmod (wrap64 ((rd_T37 l0 x8_1).f1)) 2) (Int.tmod (wrap64 ((rd_T37 l0 x8_1).f2)) 6) t216 t217 t218 t219 _ ?side1 ?side2 A16.out).mono ?_); (case side1 => repeat (first | exact (Kd.V_reads' HO_214000.out).2.2 | (with_reducible refine Kd.C_alloc ?_ _) | (with_reducible refine Kd.C_drewN ?_ _) | (with_reducible refine Kd.C_drew ?_))); (case side2 => exact (Kd.V_reads' HO_214000.out).2.1); rintro e w23 ⟨rfl, hb⟩; refine ⟨_, rfl, ?_⟩; have n0_ := Aside0.mk (Kd.V_below (by (with_reducible repeat (first | apply Kd.V_alloc | apply Kd.V_drewN | apply Kd.V_drew)); exact HO_214000.out) hb); have n1_ := Aside0.mk (blk_below (g := gb213) (o := .cells #[.slice Ao22 x214000_1.length co22, .bool x214001_1, .bool x214002_1, .int .i64 x214003_1] 27 (0, 0)) (by (with_reducible repeat (first | apply blk_drewN | apply blk_drew | apply blk_alloc)); exact BK213.out) hb); have n2_ := Aside0.mk (below_step (by repeat (first | exact HB.out | apply below_alloc | apply pw_below_drewN | apply below_drew1 | refine below_set ?_ GE213.out)) hb); clear HO_214000; clear BK213; clear HB; have HO_214000 := n0_; have BK213 := n1_; have HB := n2_; clear n0_ n1_ n2_; (try clear hb); (try clear hb2); (try clear hk); (try clear hi)) | ((with_reducible refine gate_dst (N := 11) rfl ?_); refine box_event ?hg (N := 11) ?hd (cs := #[.bool false, .string (⟨#[]⟩ : ByteArray), .string (⟨#[]⟩ : ByteArray)]) (t := 46) ?hr ?_; (case hd => rfl); (case hg => rfl); (case hr => first | (go_simp; done) | (go_simp; rfl)); intro gb220 hg w24 hbox hb; have n0_ := Aside0.mk (Kd.V_below (Kd.V_elderB (by (with_reducible repeat (first | apply Kd.V_alloc | apply Kd.V_drewN | apply Kd.V_drew)); exact HO_214000.out) gb220 (Nat.le_of_eq hg.symm)) hb); have n1_ := Aside0.mk (blk_below (g := gb213) (o := .cells #[.slice Ao22 x214000_1.length co22, .bool x214001_1, .bool x214002_1, .int .i64 x214003_1] 27 (0, 0)) (by (with_reducible repeat (first | apply blk_drewN | apply blk_drew | apply blk_alloc)); exact BK213.out) hb); have n2_ := Aside0.mk (below_step (by repeat (first | exact HB.out | apply below_alloc | apply pw_below_drewN | apply below_drew1 | refine below_set ?_ GE213.out)) hb); have n3_ := Aside0.mk (hbox); have n4_ := Aside0.mk ((by rw [hg]; exact (below_size (by repeat (first | exact HB.out | apply below_alloc | apply pw_below_drewN | apply below_drew1 | refine below_set ?_ GE213.out))) : w.heap.size ≤ gb220)); have n5_ := Aside0.mk ((by rw [hg]; exact (below_size (by repeat (first | exact HB.out | apply below_alloc | apply pw_below_drewN | apply below_drew1 | refine below_set ?_ GE213.out))) : w.heap.size ≤ gb220)); have n6_ := Aside0.mk ((by rw [hg]; exact Nat.ne_of_lt (blk_lt (g := gb213) (o := .cells #[.slice Ao22 x214000_1.length co22, .bool x214001_1, .bool x214002_1, .int .i64 x214003_1] 27 (0, 0)) (by (with_reducible repeat (first | apply blk_drewN | apply blk_drew | apply blk_alloc)); exact BK213.out)) : gb213 ≠ gb220)); have n7_ := Aside0.mk ((by rw [hg]; exact Nat.ne_of_gt (blk_lt (g := gb213) (o := .cells #[.slice Ao22 x214000_1.length co22, .bool x214001_1, .bool x214002_1, .int .i64 x214003_1] 27 (0, 0)) (by (with_reducible repeat (first | apply blk_drewN | apply blk_drew | apply blk_alloc)); exact BK213.out)) : gb220 ≠ gb213)); clear HO_214000; clear BK213; clear HB; have HO_214000 := n0_; have BK213 := n1_; have HB := n2_; have BK220 := n3_; have GW220 := n4_; have GE220 := n5_; have NB213_220 := n6_; have NB220_213 := n7_; clear n0_ n1_ n2_ n3_ n4_ n5_ n6_ n7_; clear hb hbox hg; have hnb25 := NB220_213.out; have hnc25 := NB213_220.out; have hcz26_0 : w24.cell? ⟨gb220, 0, none⟩ = some (.bool false) := (blk_cell BK220.out 0).trans rfl; have hcz26_1 : w24.cell? ⟨gb220, 1, none⟩ = some (.string (⟨#[]⟩ : ByteArray)) := (blk_cell BK220.out 1).trans rfl; have hcz26_2 : w24.cell? ⟨gb220, 2, none⟩ = some (.string (⟨#[]⟩ : ByteArray)) := (blk_cell BK220.out 2).trans rfl; have hfz26_0 := blk_frozen BK220.out 0; have hfz26_1 := blk_frozen BK220.out 1; have hfz26_2 := blk_frozen BK220.out 2))
         have n0_ : Aside0 (Kd.V k44 44 (((w24.setCell ⟨gb220, 0, none⟩ (.bool t216)).setCell ⟨gb220, 1, none⟩ (.string t217)).setCell ⟨gb220, 2, none⟩ (.string t218)) w.heap.size (fun k_ => k_ ≠ gb213 ∧ k_ ≠ gb220) (.slice Ao22 x214000_1.length co22) x214000_1) := ⟨by (with_reducible repeat (first | apply Kd.V_alloc | apply Kd.V_drewN | apply Kd.V_drew)); exact Kd.V_mono (Kd.V_far (p := ⟨gb220, 2, none⟩) (Kd.V_far (p := ⟨gb220, 1, none⟩) (Kd.V_far (p := ⟨gb220, 0, none⟩) (Kd.V_mono HO_214000.out (fun k_ hk => (⟨hk, hk.2⟩ : _ ∧ k_ ≠ gb220))) (fun _ hk => hk.2) (.bool t216)) (fun _ hk => hk.2) (.string t217)) (fun _ hk => hk.2) (.string t218)) (fun _ hk => ⟨hk.1.1, hk.1.2⟩)⟩
         have n1_ : Aside0 ((((w24.setCell ⟨gb220, 0, none⟩ (.bool t216)).setCell ⟨gb220, 1, none⟩ (.string t217)).setCell ⟨gb220, 2, none⟩ (.string t218)).heap[gb213]? = some (.cells #[.slice Ao22 x214000_1.length co22, .bool x214001_1, .bool x214002_1, .int .i64 x214003_1] 27 (0, 0))) := ⟨by (with_reducible repeat (first | apply blk_drewN | apply blk_drew | apply blk_alloc)); refine blk_far ?_ NB213_220.out _; (with_reducible repeat (first | apply blk_drewN | apply blk_drew | apply blk_alloc)); refine blk_far ?_ NB213_220.out _; (with_reducible repeat (first | apply blk_drewN | apply blk_drew | apply blk_alloc)); refine blk_far ?_ NB213_220.out _; (with_reducible repeat (first | apply blk_drewN | apply blk_drew | apply blk_alloc)); exact BK213.out⟩
         have n2_ : Aside0 ((((w24.setCell ⟨gb220, 0, none⟩ (.bool t216)).setCell ⟨gb220, 1, none⟩ (.string t217)).setCell ⟨gb220, 2, none⟩ (.string t218)).heap[gb220]? = some (.cells #[.bool t216, .string t217, .string t218] 46 (0, 0))) := ⟨by (with_reducible repeat (first | apply blk_drewN | apply blk_drew | apply blk_alloc)); refine blk_put (cs := #[.bool t216, .string t217, .string (⟨#[]⟩ : ByteArray)]) ?_ 2 _ rfl; (with_reducible repeat (first | apply blk_drewN | apply blk_drew | apply blk_alloc)); refine blk_put (cs := #[.bool t216, .string (⟨#[]⟩ : ByteArray), .string (⟨#[]⟩ : ByteArray)]) ?_ 1 _ rfl; (with_reducible repeat (first | apply blk_drewN | apply blk_drew | apply blk_alloc)); refine blk_put (cs := #[.bool false, .string (⟨#[]⟩ : ByteArray), .string (⟨#[]⟩ : ByteArray)]) ?_ 0 _ rfl; (with_reducible repeat (first | apply blk_drewN | apply blk_drew | apply blk_alloc)); exact BK220.out⟩
         have n3_ : Aside0 (Below w.heap.size w (((w24.setCell ⟨gb220, 0, none⟩ (.bool t216)).setCell ⟨gb220, 1, none⟩ (.string t217)).setCell ⟨gb220, 2, none⟩ (.string t218))) := ⟨by repeat (first | (with_reducible first | exact HB.out | apply below_alloc | apply pw_below_drewN | apply below_drew1 | refine below_set ?_ GE213.out | refine below_set ?_ GE220.out) | exact HB.out)⟩
         (try clear HO_214000)
         (try clear BK213)
         (try clear BK220)
         (try clear HB)
         generalize (((w24.setCell ⟨gb220, 0, none⟩ (.bool t216)).setCell ⟨gb220, 1, none⟩ (.string t217)).setCell ⟨gb220, 2, none⟩ (.string t218)) = w27 at n0_ n1_ n2_ n3_ ⊢
         have HO_214000 := n0_
         have BK213 := n1_
         have BK220 := n2_
         have HB := n3_
         clear n0_ n1_ n2_ n3_
         have n0_ := Aside0.mk (Kd.V_drew HO_214000.out)
         have n1_ := Aside0.mk (blk_drew BK213.out)
         have n2_ := Aside0.mk (blk_drew BK220.out)
         have n3_ := Aside0.mk (below_drew1 HB.out)
         clear HO_214000
         clear BK213
         clear BK220
         clear HB
         have HO_214000 := n0_
         have BK213 := n1_
         have BK220 := n2_
         have HB := n3_
         clear n0_ n1_ n2_ n3_
         have p221 : 0 ≤ (x8_1 : Int) := of_decide_eq_true (by first | (with_reducible assumption) | assumption)
         have q221 : x8_1 < (l0.length : Int) := of_decide_eq_true (by first | (with_reducible assumption) | assumption)
         obtain ⟨ad221, e221, hx221_0, hx221_1, hx221_2, hx221_3, hx221_4, hx221_5⟩ := at_T37 HR0.out x8_1 p221 q221
         have hw221_5 := hx221_5
         have hw221_4 := hx221_4
         have hw221_3 := hx221_3
         have hw221_2 := hx221_2
         have hw221_1 := hx221_1
         have hw221_0 := hx221_0
         obtain rfl : ad214 = ad221 := (by injection e221)
         replace hx221_0 := (HB.out.cell (World.block_lt_of_cell? w _ hx221_0)).trans hx221_0
         replace hx221_1 := (HB.out.cell (World.block_lt_of_cell? w _ hx221_1)).trans hx221_1
         replace hx221_2 := (HB.out.cell (World.block_lt_of_cell? w _ hx221_2)).trans hx221_2
         replace hx221_3 := (HB.out.cell (World.block_lt_of_cell? w _ hx221_3)).trans hx221_3
         replace hx221_4 := (HB.out.cell (World.block_lt_of_cell? w _ hx221_4)).trans hx221_4
         replace hx221_5 := (HB.out.cell (World.block_lt_of_cell? w _ hx221_5)).trans hx221_5
         replace p221 := eq_true p221
         replace q221 := eq_true q221
         have p222 : 0 ≤ (x8_1 : Int) := of_decide_eq_true (by first | (with_reducible assumption) | assumption)
         have q222 : x8_1 < (l0.length : Int) := of_decide_eq_true (by first | (with_reducible assumption) | assumption)
         obtain ⟨ad222, e222, hx222_0, hx222_1, hx222_2, hx222_3, hx222_4, hx222_5⟩ := at_T37 HR0.out x8_1 p222 q222
         have hw222_5 := hx222_5
         have hw222_4 := hx222_4
         have hw222_3 := hx222_3
         have hw222_2 := hx222_2
         have hw222_1 := hx222_1
         have hw222_0 := hx222_0
         obtain rfl : ad214 = ad222 := (by injection e222)
         replace hx222_0 := (HB.out.cell (World.block_lt_of_cell? w _ hx222_0)).trans hx222_0
         replace hx222_1 := (HB.out.cell (World.block_lt_of_cell? w _ hx222_1)).trans hx222_1
         replace hx222_2 := (HB.out.cell (World.block_lt_of_cell? w _ hx222_2)).trans hx222_2
         replace hx222_3 := (HB.out.cell (World.block_lt_of_cell? w _ hx222_3)).trans hx222_3
         replace hx222_4 := (HB.out.cell (World.block_lt_of_cell? w _ hx222_4)).trans hx222_4
         replace hx222_5 := (HB.out.cell (World.block_lt_of_cell? w _ hx222_5)).trans hx222_5
         replace p222 := eq_true p222
         replace q222 := eq_true q222
         refine start_ (n := 21) (S := fun w' => w'.cell? ⟨gb213, 0, none⟩ = some (.slice Ao22 x214000_1.length co22) ∧ w'.cell? ⟨gb213, 1, none⟩ = some (.bool x214001_1) ∧ w'.cell? ⟨gb213, 2, none⟩ = some (.bool x214002_1) ∧ w'.cell? ⟨gb213, 3, none⟩ = some (.int .i64 x214003_1) ∧ w'.cell? (ad214.add ((x8_1).toNat * 6)) = some (.int .u8 ((rd_T37 l0 x8_1).f0)) ∧ w'.cell? ⟨(ad214.add ((x8_1).toNat * 6)).block, (ad214.add ((x8_1).toNat * 6)).off + 1, none⟩ = some (.int .u8 ((rd_T37 l0 x8_1).f1)) ∧ w'.cell? ⟨(ad214.add ((x8_1).toNat * 6)).block, (ad214.add ((x8_1).toNat * 6)).off + 2, none⟩ = some (.int .u8 ((rd_T37 l0 x8_1).f2)) ∧ w'.cell? ⟨(ad214.add ((x8_1).toNat * 6)).block, (ad214.add ((x8_1).toNat * 6)).off + 3, none⟩ = some (.int .u8 ((rd_T37 l0 x8_1).f3)) ∧ w'.cell? ⟨(ad214.add ((x8_1).toNat * 6)).block, (ad214.add ((x8_1).toNat * 6)).off + 4, none⟩ = some (.string ((rd_T37 l0 x8_1).f4)) ∧ w'.cell? ⟨(ad214.add ((x8_1).toNat * 6)).block, (ad214.add ((x8_1).toNat * 6)).off + 5, none⟩ = some (.string ((rd_T37 l0 x8_1).f5)) ∧ w'.cell? (ad214.add ((x8_1).toNat * 6)) = some (.int .u8 ((rd_T37 l0 x8_1).f0)) ∧ w'.cell? ⟨(ad214.add ((x8_1).toNat * 6)).block, (ad214.add ((x8_1).toNat * 6)).off + 1, none⟩ = some (.int .u8 ((rd_T37 l0 x8_1).f1)) ∧ w'.cell? ⟨(ad214.add ((x8_1).toNat * 6)).block, (ad214.add ((x8_1).toNat * 6)).off + 2, none⟩ = some (.int .u8 ((rd_T37 l0 x8_1).f2)) ∧ w'.cell? ⟨(ad214.add ((x8_1).toNat * 6)).block, (ad214.add ((x8_1).toNat * 6)).off + 3, none⟩ = some (.int .u8 ((rd_T37 l0 x8_1).f3)) ∧ w'.cell? ⟨(ad214.add ((x8_1).toNat * 6)).block, (ad214.add ((x8_1).toNat * 6)).off + 4, none⟩ = some (.string ((rd_T37 l0 x8_1).f4)) ∧ w'.cell? ⟨(ad214.add ((x8_1).toNat * 6)).block, (ad214.add ((x8_1).toNat * 6)).off + 5, none⟩ = some (.string ((rd_T37 l0 x8_1).f5))) (ds := []) #[false, false, false, false, false, false, false, false, false, false, false, false, false, false, false, false, false, false, false, false, false] (by kernel_rfl) rfl rfl ⟨(blk_cell BK213.out 0).trans rfl, (blk_cell BK213.out 1).trans rfl, (blk_cell BK213.out 2).trans rfl, (blk_cell BK213.out 3).trans rfl, ((HB.out.cell (World.block_lt_of_cell? w _ hw221_0)).trans hw221_0), ((HB.out.cell (World.block_lt_of_cell? w _ hw221_1)).trans hw221_1), ((HB.out.cell (World.block_lt_of_cell? w _ hw221_2)).trans hw221_2), ((HB.out.cell (World.block_lt_of_cell? w _ hw221_3)).trans hw221_3), ((HB.out.cell (World.block_lt_of_cell? w _ hw221_4)).trans hw221_4), ((HB.out.cell (World.block_lt_of_cell? w _ hw221_5)).trans hw221_5), ((HB.out.cell (World.block_lt_of_cell? w _ hw222_0)).trans hw222_0), ((HB.out.cell (World.block_lt_of_cell? w _ hw222_1)).trans hw222_1), ((HB.out.cell (World.block_lt_of_cell? w _ hw222_2)).trans hw222_2), ((HB.out.cell (World.block_lt_of_cell? w _ hw222_3)).trans hw222_3), ((HB.out.cell (World.block_lt_of_cell? w _ hw222_4)).trans hw222_4), ((HB.out.cell (World.block_lt_of_cell? w _ hw222_5)).trans hw222_5)⟩ (fun hHeld => ?_); refine with_tabW clinkerlaw05_NandOnce.tab10 clinkerlaw05_NandOnce.bits10 (fun HT_ HW_ => ?_)
         generalize w27.drew = w28 at HO_214000 BK213 BK220 HB hx221_0 hx221_1 hx221_2 hx221_3 hx221_4 hx221_5 hx222_0 hx222_1 hx222_2 hx222_3 hx222_4 hx222_5 hHeld ⊢
         refine pure_ (i := 1) (N := some 59) (v := ?_) (a' := ?_) #[false, true, false, false, false, false, false, false, false, false, false, false, false, false, false, false, false, false, false, false, false] rfl rfl (any_of HT_.out (by kernel_rfl)) (fun _ _ _ h => h) (Or.inl ⟨by rfl, ?_⟩) ?_ ?_
         rotate_left
         ·
          intro w'
          go_simp
          with_reducible rfl
         rotate_left
         ·
          simp only [Act.put, List.setIfInBounds_toArray, List.set_cons_zero, List.set_cons_succ, i64_w, i32_w]
          rfl
         refine pure_ (i := 2) (N := some 60) (v := ?_) (a' := ?_) #[false, true, true, false, false, false, false, false, false, false, false, false, false, false, false, false, false, false, false, false, false] rfl rfl (any_of HT_.out (by kernel_rfl)) (fun _ _ _ h => h) (Or.inl ⟨by rfl, ?_⟩) ?_ ?_
         rotate_left
         ·
          intro w'
          go_simp
          with_reducible rfl
         rotate_left
         ·
          simp only [Act.put, List.setIfInBounds_toArray, List.set_cons_zero, List.set_cons_succ, i64_w, i32_w]
          rfl
         refine pure_ (i := 3) (N := some 61) (v := ?_) (a' := ?_) #[false, true, true, true, false, false, false, false, false, false, false, false, false, false, false, false, false, false, false, false, false] rfl rfl (any_of HT_.out (by kernel_rfl)) (fun _ _ _ h => h) (Or.inl ⟨by rfl, ?_⟩) ?_ ?_
         rotate_left
         ·
          intro w'
          go_simp
          with_reducible rfl
         rotate_left
         ·
          simp only [Act.put, List.setIfInBounds_toArray, List.set_cons_zero, List.set_cons_succ, i64_w, i32_w]
          rfl
         refine pure_ (i := 4) (N := some 62) (v := ?_) (a' := ?_) #[false, true, true, true, true, false, false, false, false, false, false, false, false, false, false, false, false, false, false, false, false] rfl rfl (any_of HT_.out (by kernel_rfl)) (fun _ _ _ h => h) (Or.inl ⟨by rfl, ?_⟩) ?_ ?_
         rotate_left
         ·
          intro w'
          go_simp
          with_reducible rfl
         rotate_left
         ·
          simp only [Act.put, List.setIfInBounds_toArray, List.set_cons_zero, List.set_cons_succ, i64_w, i32_w]
          rfl
         refine pure_ (i := 5) (N := some 63) (v := ?_) (a' := ?_) #[false, true, true, true, true, true, false, false, false, false, false, false, false, false, false, false, false, false, false, false, false] rfl rfl (any_of HT_.out (by kernel_rfl)) (fun _ _ _ h => h) (Or.inl ⟨by rfl, ?_⟩) ?_ ?_
         rotate_left
         ·
          intro w'
          go_simp
          with_reducible rfl
         rotate_left
         ·
          simp only [Act.put, List.setIfInBounds_toArray, List.set_cons_zero, List.set_cons_succ, i64_w, i32_w]
          rfl
         refine pure_ (i := 6) (N := some 64) (v := ?_) (a' := ?_) #[false, true, true, true, true, true, true, false, false, false, false, false, false, false, false, false, false, false, false, false, false] rfl rfl (any_of HT_.out (by kernel_rfl)) (fun _ _ _ h => h) (Or.inl ⟨by rfl, ?_⟩) ?_ ?_
         rotate_left
         ·
          intro w'
          go_simp
          with_reducible rfl
         rotate_left
         ·
          simp only [Act.put, List.setIfInBounds_toArray, List.set_cons_zero, List.set_cons_succ, i64_w, i32_w]
          rfl
         refine pure_ (i := 9) (N := some 67) (v := ?_) (a' := ?_) #[false, true, true, true, true, true, true, false, false, true, false, false, false, false, false, false, false, false, false, false, false] rfl rfl (any_of HT_.out (by kernel_rfl)) (fun _ _ _ h => h) (Or.inl ⟨by rfl, ?_⟩) ?_ ?_
         rotate_left
         ·
          intro w'
          go_simp
          with_reducible rfl
         rotate_left
         ·
          simp only [Act.put, List.setIfInBounds_toArray, List.set_cons_zero, List.set_cons_succ, i64_w, i32_w]
          rfl
         refine pure_ (i := 10) (N := some 68) (v := ?_) (a' := ?_) #[false, true, true, true, true, true, true, false, false, true, true, false, false, false, false, false, false, false, false, false, false] rfl rfl (any_of HT_.out (by kernel_rfl)) (fun _ _ _ h => h) (Or.inl ⟨by rfl, ?_⟩) ?_ ?_
         rotate_left
         ·
          intro w'
          go_simp
          with_reducible rfl
         rotate_left
         ·
          simp only [Act.put, List.setIfInBounds_toArray, List.set_cons_zero, List.set_cons_succ, i64_w, i32_w]
          rfl
         refine pure_ (i := 11) (N := some 69) (v := ?_) (a' := ?_) #[false, true, true, true, true, true, true, false, false, true, true, true, false, false, false, false, false, false, false, false, false] rfl rfl (any_of HT_.out (by kernel_rfl)) (fun _ _ _ h => h) (Or.inl ⟨by rfl, ?_⟩) ?_ ?_
         rotate_left
         ·
          intro w'
          go_simp
          with_reducible rfl
         rotate_left
         ·
          simp only [Act.put, List.setIfInBounds_toArray, List.set_cons_zero, List.set_cons_succ, i64_w, i32_w]
          rfl
         refine take_ (i := 0) (N := some 58) (v := ?_) (a' := ?_) #[true, true, true, true, true, true, true, false, false, true, true, true, false, false, false, false, false, false, false, false, false] rfl rfl (take_ofW HT_.out HW_.out (by kernel_rfl)) (fun _ _ _ h => h) (Or.inl ⟨by rfl, ?_⟩) hHeld ?_ ?_
         rotate_left
         ·
          rintro w' ⟨s0, s1, s2, s3, s4, s5, s6, s7, s8, s9, s10, s11, s12, s13, s14, s15⟩
          go_simp
          with_reducible rfl
         rotate_left
         ·
          simp only [Act.put, List.setIfInBounds_toArray, List.set_cons_zero, List.set_cons_succ, i64_w, i32_w]
          rfl
         refine take_ (i := 7) (N := some 65) (v := ?_) (a' := ?_) #[true, true, true, true, true, true, true, true, false, true, true, true, false, false, false, false, false, false, false, false, false] rfl rfl (take_ofW HT_.out HW_.out (by kernel_rfl)) (fun _ _ _ h => h) (Or.inl ⟨by rfl, ?_⟩) hHeld ?_ ?_
         rotate_left
         ·
          rintro w' ⟨s0, s1, s2, s3, s4, s5, s6, s7, s8, s9, s10, s11, s12, s13, s14, s15⟩
          go_simp
          with_reducible rfl
         rotate_left
         ·
          simp only [Act.put, List.setIfInBounds_toArray, List.set_cons_zero, List.set_cons_succ, i64_w, i32_w]
          rfl
         refine pure_ (i := 8) (N := some 66) (v := ?_) (a' := ?_) #[true, true, true, true, true, true, true, true, true, true, true, true, false, false, false, false, false, false, false, false, false] rfl rfl (any_of HT_.out (by kernel_rfl)) (fun _ _ _ h => h) (Or.inl ⟨by rfl, ?_⟩) ?_ ?_
         rotate_left
         ·
          intro w'
          go_simp
          with_reducible rfl
         rotate_left
         ·
          simp only [Act.put, List.setIfInBounds_toArray, List.set_cons_zero, List.set_cons_succ, i64_w, i32_w]
          rfl
         refine take_ (i := 12) (N := some 70) (v := ?_) (a' := ?_) #[true, true, true, true, true, true, true, true, true, true, true, true, true, false, false, false, false, false, false, false, false] rfl rfl (take_ofW HT_.out HW_.out (by kernel_rfl)) (fun _ _ _ h => h) (Or.inl ⟨by rfl, ?_⟩) hHeld ?_ ?_
         rotate_left
         ·
          rintro w' ⟨s0, s1, s2, s3, s4, s5, s6, s7, s8, s9, s10, s11, s12, s13, s14, s15⟩
          go_simp
          with_reducible rfl
         rotate_left
         ·
          simp only [Act.put, List.setIfInBounds_toArray, List.set_cons_zero, List.set_cons_succ, i64_w, i32_w]
          rfl
         refine join_ (σ := Value × Nat) 2 #[true, true, true, true, true, true, true, true, true, true, true, true, true, true, true, true, true, true, true, false, false] (fun s_ => [(71, .agg #[.int .i64 t223, .string t224, .string t225, .int .i64 t226]), (72, .tuple #[.agg #[s_.1, .bool t230, .bool t231, .int .i64 t232], .int .i64 t233]), (13, .pointer (some ⟨s_.2, 0, none⟩)), (57, .tuple #[.agg #[s_.1, .bool t230, .bool t231, .int .i64 t232], .int .i64 t233]), (73, .agg #[s_.1, .bool t230, .bool t231, .int .i64 t232]), (74, .int .i64 t233)]) (fun s_ w' => (w'.cell? ⟨gb213, 0, none⟩ = some (.slice Ao22 x214000_1.length co22) ∧ w'.cell? ⟨gb213, 1, none⟩ = some (.bool x214001_1) ∧ w'.cell? ⟨gb213, 2, none⟩ = some (.bool x214002_1) ∧ w'.cell? ⟨gb213, 3, none⟩ = some (.int .i64 x214003_1) ∧ w'.cell? (ad214.add ((x8_1).toNat * 6)) = some (.int .u8 ((rd_T37 l0 x8_1).f0)) ∧ w'.cell? ⟨(ad214.add ((x8_1).toNat * 6)).block, (ad214.add ((x8_1).toNat * 6)).off + 1, none⟩ = some (.int .u8 ((rd_T37 l0 x8_1).f1)) ∧ w'.cell? ⟨(ad214.add ((x8_1).toNat * 6)).block, (ad214.add ((x8_1).toNat * 6)).off + 2, none⟩ = some (.int .u8 ((rd_T37 l0 x8_1).f2)) ∧ w'.cell? ⟨(ad214.add ((x8_1).toNat * 6)).block, (ad214.add ((x8_1).toNat * 6)).off + 3, none⟩ = some (.int .u8 ((rd_T37 l0 x8_1).f3)) ∧ w'.cell? ⟨(ad214.add ((x8_1).toNat * 6)).block, (ad214.add ((x8_1).toNat * 6)).off + 4, none⟩ = some (.string ((rd_T37 l0 x8_1).f4)) ∧ w'.cell? ⟨(ad214.add ((x8_1).toNat * 6)).block, (ad214.add ((x8_1).toNat * 6)).off + 5, none⟩ = some (.string ((rd_T37 l0 x8_1).f5)) ∧ w'.cell? (ad214.add ((x8_1).toNat * 6)) = some (.int .u8 ((rd_T37 l0 x8_1).f0)) ∧ w'.cell? ⟨(ad214.add ((x8_1).toNat * 6)).block, (ad214.add ((x8_1).toNat * 6)).off + 1, none⟩ = some (.int .u8 ((rd_T37 l0 x8_1).f1)) ∧ w'.cell? ⟨(ad214.add ((x8_1).toNat * 6)).block, (ad214.add ((x8_1).toNat * 6)).off + 2, none⟩ = some (.int .u8 ((rd_T37 l0 x8_1).f2)) ∧ w'.cell? ⟨(ad214.add ((x8_1).toNat * 6)).block, (ad214.add ((x8_1).toNat * 6)).off + 3, none⟩ = some (.int .u8 ((rd_T37 l0 x8_1).f3)) ∧ w'.cell? ⟨(ad214.add ((x8_1).toNat * 6)).block, (ad214.add ((x8_1).toNat * 6)).off + 4, none⟩ = some (.string ((rd_T37 l0 x8_1).f4)) ∧ w'.cell? ⟨(ad214.add ((x8_1).toNat * 6)).block, (ad214.add ((x8_1).toNat * 6)).off + 5, none⟩ = some (.string ((rd_T37 l0 x8_1).f5))) ∧ (Kd.V k44 44 w' w.heap.size (fun k_ => k_ ≠ gb213 ∧ k_ ≠ gb220 ∧ k_ ≠ s_.2) s_.1 t227) ∧ (Kd.V k44 44 w' w.heap.size (fun k_ => k_ ≠ gb213 ∧ k_ ≠ gb220 ∧ k_ ≠ s_.2) (.slice Ao22 x214000_1.length co22) x214000_1) ∧ (w'.heap[gb213]? = some (.cells #[.slice Ao22 x214000_1.length co22, .bool x214001_1, .bool x214002_1, .int .i64 x214003_1] 27 (0, 0))) ∧ (w'.heap[gb220]? = some (.cells #[.bool t216, .string t217, .string t218] 46 (0, 0))) ∧ (w'.heap[s_.2]? = some (.cells #[.slice none 0 0, .bool false, .bool false, .int .i64 0] 27 (0, 0))) ∧ (w.heap.size ≤ s_.2) ∧ (w.heap.size ≤ s_.2) ∧ (gb213 ≠ s_.2) ∧ (s_.2 ≠ gb213) ∧ (gb220 ≠ s_.2) ∧ (s_.2 ≠ gb220) ∧ (Below w.heap.size w w')) ?_ ?_
         rotate_left
         ·
          intro hCont
          refine two_ (i := 13) (j := 18) (Ni := some 71) (Nj := some 13) #[true, true, true, true, true, true, true, true, true, true, true, true, true, true, false, false, false, false, false, false, false] #[true, true, true, true, true, true, true, true, true, true, true, true, true, false, false, false, false, false, true, false, false] rfl rfl rfl rfl (two_of HT_.out (by kernel_rfl)) (by decide) (by decide) (fun K hK => ?_) (fun K hK => ?_)
          ·
           skip
           refine goes_ Try.func21 (by kernel_rfl) rfl #[.agg #[.int .u8 ((rd_T37 l0 x8_1).f0), .int .u8 ((rd_T37 l0 x8_1).f1), .int .u8 ((rd_T37 l0 x8_1).f2), .int .u8 ((rd_T37 l0 x8_1).f3), .string ((rd_T37 l0 x8_1).f4), .string ((rd_T37 l0 x8_1).f5)]] (by rfl) rfl rfl (by (try simp only [List.map_toArray, List.map_cons, List.map_nil]); first | done | rfl | (simp only [List.length_drop, List.length_take]; rfl)) ?_
           with_reducible refine (clinkerlaw05_Fate.calls ((rd_T37 l0 x8_1).f0) ((rd_T37 l0 x8_1).f1) ((rd_T37 l0 x8_1).f2) ((rd_T37 l0 x8_1).f3) ((rd_T37 l0 x8_1).f4) ((rd_T37 l0 x8_1).f5) t223 t224 t225 t226 _ A17.out).mono ?_
           rintro e w29 ⟨rfl, hb⟩
           refine ⟨_, rfl, ?_⟩
           have n0_ := Aside0.mk (Kd.V_below (by (with_reducible repeat (first | apply Kd.V_alloc | apply Kd.V_drewN | apply Kd.V_drew)); exact HO_214000.out) hb)
           have n1_ := Aside0.mk (blk_below (g := gb213) (o := .cells #[.slice Ao22 x214000_1.length co22, .bool x214001_1, .bool x214002_1, .int .i64 x214003_1] 27 (0, 0)) (by (with_reducible repeat (first | apply blk_drewN | apply blk_drew | apply blk_alloc)); exact BK213.out) hb)
           have n2_ := Aside0.mk (blk_below (g := gb220) (o := .cells #[.bool t216, .string t217, .string t218] 46 (0, 0)) (by (with_reducible repeat (first | apply blk_drewN | apply blk_drew | apply blk_alloc)); exact BK220.out) hb)
           have n3_ := Aside0.mk (below_step (by repeat (first | (with_reducible first | exact HB.out | apply below_alloc | apply pw_below_drewN | apply below_drew1 | refine below_set ?_ GE213.out | refine below_set ?_ GE220.out) | exact HB.out)) hb)
           clear HO_214000
           clear BK213
           clear BK220
           clear HB
           have HO_214000 := n0_
           have BK213 := n1_
           have BK220 := n2_
           have HB := n3_
           clear n0_ n1_ n2_ n3_
           (try clear hb)
           (try clear hb2)
           (try clear hk)
           (try clear hi)
           refine hK.out _ _ ⟨(blk_cell BK213.out 0).trans rfl, (blk_cell BK213.out 1).trans rfl, (blk_cell BK213.out 2).trans rfl, (blk_cell BK213.out 3).trans rfl, ((HB.out.cell (World.block_lt_of_cell? w _ hw221_0)).trans hw221_0), ((HB.out.cell (World.block_lt_of_cell? w _ hw221_1)).trans hw221_1), ((HB.out.cell (World.block_lt_of_cell? w _ hw221_2)).trans hw221_2), ((HB.out.cell (World.block_lt_of_cell? w _ hw221_3)).trans hw221_3), ((HB.out.cell (World.block_lt_of_cell? w _ hw221_4)).trans hw221_4), ((HB.out.cell (World.block_lt_of_cell? w _ hw221_5)).trans hw221_5), ((HB.out.cell (World.block_lt_of_cell? w _ hw222_0)).trans hw222_0), ((HB.out.cell (World.block_lt_of_cell? w _ hw222_1)).trans hw222_1), ((HB.out.cell (World.block_lt_of_cell? w _ hw222_2)).trans hw222_2), ((HB.out.cell (World.block_lt_of_cell? w _ hw222_3)).trans hw222_3), ((HB.out.cell (World.block_lt_of_cell? w _ hw222_4)).trans hw222_4), ((HB.out.cell (World.block_lt_of_cell? w _ hw222_5)).trans hw222_5)⟩ (fun hHeld => ?_)
           clear hK K
           refine norm_ (a' := ?_) ?_ ?_
           rotate_left
           ·
            show Act.put _ (some 71) _ = _
            simp only [Act.put, List.setIfInBounds_toArray, List.set_cons_zero, List.set_cons_succ, i64_w, i32_w]
            rfl
           refine two_ (i := 14) (j := 18) (Ni := some 72) (Nj := some 13) #[true, true, true, true, true, true, true, true, true, true, true, true, true, true, true, false, false, false, false, false, false] #[true, true, true, true, true, true, true, true, true, true, true, true, true, true, false, false, false, false, true, false, false] rfl rfl rfl rfl (two_of HT_.out (by kernel_rfl)) (by decide) (by decide) (fun K hK => ?_) (fun K hK => ?_)
           ·
            skip
            refine goes_ Try.func19 (by kernel_rfl) rfl #[.agg #[.slice Ao22 x214000_1.length co22, .bool x214001_1, .bool x214002_1, .int .i64 x214003_1], .int .i64 (Int.tmod (wrap64 ((rd_T37 l0 x8_1).f1)) 2), .int .i64 (Int.tmod (wrap64 ((rd_T37 l0 x8_1).f2)) 6), .agg #[.bool false, .string ((rd_T37 l0 x8_1).f4), .string (⟨#[]⟩ : ByteArray)], .agg #[.int .i64 t223, .string t224, .string t225, .int .i64 t226]] (by rfl) rfl rfl (by (try simp only [List.map_toArray, List.map_cons, List.map_nil]); first | done | rfl | (simp only [List.length_drop, List.length_take]; rfl)) ?_
            with_reducible refine (nand_Program.calls (fun k_ => (k_ ≠ gb213 ∧ k_ ≠ gb220)) _ _ x214000_1 x214001_1 x214002_1 x214003_1 (Int.tmod (wrap64 ((rd_T37 l0 x8_1).f1)) 2) (Int.tmod (wrap64 ((rd_T37 l0 x8_1).f2)) 6) false ((rd_T37 l0 x8_1).f4) (⟨#[]⟩ : ByteArray) t223 t224 t225 t226 t227 t230 t231 t232 t233 _ ?side1 A18.out).mono ?_
            (case side1 => exact HO_214000.out)
            rintro e w30 ⟨v228, rfl, ho0, hb⟩
            refine ⟨_, rfl, ?_⟩
            have n0_ := Aside0.mk (Kd.V_below (by (with_reducible repeat (first | apply Kd.V_alloc | apply Kd.V_drewN | apply Kd.V_drew)); exact HO_214000.out) hb)
            have n1_ := Aside0.mk (Kd.V_lower (Kd.V_mono (ok' := fun k_ => k_ ≠ gb213 ∧ k_ ≠ gb220) ho0 (fun k_ hk_ => ⟨Or.elim hk_ (fun hs_ => hs_.1) (fun hn_ => (Kd.freshB (g := gb213) (o := .cells #[.slice Ao22 x214000_1.length co22, .bool x214001_1, .bool x214002_1, .int .i64 x214003_1] 27 (0, 0)) (by (with_reducible repeat (first | apply blk_drewN | apply blk_drew | apply blk_alloc)); exact BK213.out) k_ hn_)), Or.elim hk_ (fun hs_ => hs_.2) (fun hn_ => (Kd.freshB (g := gb220) (o := .cells #[.bool t216, .string t217, .string t218] 46 (0, 0)) (by (with_reducible repeat (first | apply blk_drewN | apply blk_drew | apply blk_alloc)); exact BK220.out) k_ hn_))⟩)) (below_size (by repeat (first | (with_reducible first | exact HB.out | apply below_alloc | apply pw_below_drewN | apply below_drew1 | refine below_set ?_ GE213.out | refine below_set ?_ GE220.out) | exact HB.out))))
            have n2_ := Aside0.mk (blk_below (g := gb213) (o := .cells #[.slice Ao22 x214000_1.length co22, .bool x214001_1, .bool x214002_1, .int .i64 x214003_1] 27 (0, 0)) (by (with_reducible repeat (first | apply blk_drewN | apply blk_drew | apply blk_alloc)); exact BK213.out) hb)
            have n3_ := Aside0.mk (blk_below (g := gb220) (o := .cells #[.bool t216, .string t217, .string t218] 46 (0, 0)) (by (with_reducible repeat (first | apply blk_drewN | apply blk_drew | apply blk_alloc)); exact BK220.out) hb)
            have n4_ := Aside0.mk (below_step (by repeat (first | (with_reducible first | exact HB.out | apply below_alloc | apply pw_below_drewN | apply below_drew1 | refine below_set ?_ GE213.out | refine below_set ?_ GE220.out) | exact HB.out)) hb)
            clear HO_214000
            clear BK213
            clear BK220
            clear HB
            have HO_214000 := n0_
            have HO229 := n1_
            have BK213 := n2_
            have BK220 := n3_
            have HB := n4_
            clear n0_ n1_ n2_ n3_ n4_
            (try clear hb)
            (try clear hb2)
            (try clear hk)
            (try clear hi)
            (try clear ho0)
            refine hK.out _ _ ⟨(blk_cell BK213.out 0).trans rfl, (blk_cell BK213.out 1).trans rfl, (blk_cell BK213.out 2).trans rfl, (blk_cell BK213.out 3).trans rfl, ((HB.out.cell (World.block_lt_of_cell? w _ hw221_0)).trans hw221_0), ((HB.out.cell (World.block_lt_of_cell? w _ hw221_1)).trans hw221_1), ((HB.out.cell (World.block_lt_of_cell? w _ hw221_2)).trans hw221_2), ((HB.out.cell (World.block_lt_of_cell? w _ hw221_3)).trans hw221_3), ((HB.out.cell (World.block_lt_of_cell? w _ hw221_4)).trans hw221_4), ((HB.out.cell (World.block_lt_of_cell? w _ hw221_5)).trans hw221_5), ((HB.out.cell (World.block_lt_of_cell? w _ hw222_0)).trans hw222_0), ((HB.out.cell (World.block_lt_of_cell? w _ hw222_1)).trans hw222_1), ((HB.out.cell (World.block_lt_of_cell? w _ hw222_2)).trans hw222_2), ((HB.out.cell (World.block_lt_of_cell? w _ hw222_3)).trans hw222_3), ((HB.out.cell (World.block_lt_of_cell? w _ hw222_4)).trans hw222_4), ((HB.out.cell (World.block_lt_of_cell? w _ hw222_5)).trans hw222_5)⟩ (fun hHeld => ?_)
            clear hK K
            refine norm_ (a' := ?_) ?_ ?_
            rotate_left
            ·
             show Act.put _ (some 72) _ = _
             simp only [Act.put, List.setIfInBounds_toArray, List.set_cons_zero, List.set_cons_succ, i64_w, i32_w]
             rfl
            refine pure_ (i := 15) (N := some 57) (v := ?_) (a' := ?_) #[true, true, true, true, true, true, true, true, true, true, true, true, true, true, true, true, false, false, false, false, false] rfl rfl (any_of HT_.out (by kernel_rfl)) (fun _ _ _ h => h) (Or.inl ⟨by rfl, ?_⟩) ?_ ?_
            rotate_left
            ·
             intro w'
             go_simp
             with_reducible rfl
            rotate_left
            ·
             simp only [Act.put, List.setIfInBounds_toArray, List.set_cons_zero, List.set_cons_succ, i64_w, i32_w]
             rfl
            refine pure_ (i := 16) (N := some 73) (v := ?_) (a' := ?_) #[true, true, true, true, true, true, true, true, true, true, true, true, true, true, true, true, true, false, false, false, false] rfl rfl (any_of HT_.out (by kernel_rfl)) (fun _ _ _ h => h) (Or.inl ⟨by rfl, ?_⟩) ?_ ?_
            rotate_left
            ·
             intro w'
             go_simp
             with_reducible rfl
            rotate_left
            ·
             simp only [Act.put, List.setIfInBounds_toArray, List.set_cons_zero, List.set_cons_succ, i64_w, i32_w]
             rfl
            refine pure_ (i := 17) (N := some 74) (v := ?_) (a' := ?_) #[true, true, true, true, true, true, true, true, true, true, true, true, true, true, true, true, true, true, false, false, false] rfl rfl (any_of HT_.out (by kernel_rfl)) (fun _ _ _ h => h) (Or.inl ⟨by rfl, ?_⟩) ?_ ?_
            rotate_left
            ·
             intro w'
             go_simp
             with_reducible rfl
            rotate_left
            ·
             simp only [Act.put, List.setIfInBounds_toArray, List.set_cons_zero, List.set_cons_succ, i64_w, i32_w]
             rfl
            refine one_ (i := 18) (N := some 13) #[true, true, true, true, true, true, true, true, true, true, true, true, true, true, true, true, true, true, true, false, false] rfl rfl (one_of HT_.out (by kernel_rfl)) (by decide) (fun K hK => ?_)
            refine box_step ?hg (N := 13) ?hd (cs := #[.slice none 0 0, .bool false, .bool false, .int .i64 0]) (t := 27) ?hr ?_; (case hd => rfl); (case hg => rfl); (case hr => first | (go_simp; done) | (go_simp; rfl))
            intro gb234 hg w31 hbox hb
            have n0_ := Aside0.mk (Kd.V_below (Kd.V_elderB (by (with_reducible repeat (first | apply Kd.V_alloc | apply Kd.V_drewN | apply Kd.V_drew)); exact HO_214000.out) gb234 (Nat.le_of_eq hg.symm)) hb)
            have n1_ := Aside0.mk (Kd.V_below (Kd.V_elderB (by (with_reducible repeat (first | apply Kd.V_alloc | apply Kd.V_drewN | apply Kd.V_drew)); exact HO229.out) gb234 (Nat.le_of_eq hg.symm)) hb)
            have n2_ := Aside0.mk (blk_below (g := gb213) (o := .cells #[.slice Ao22 x214000_1.length co22, .bool x214001_1, .bool x214002_1, .int .i64 x214003_1] 27 (0, 0)) (by (with_reducible repeat (first | apply blk_drewN | apply blk_drew | apply blk_alloc)); exact BK213.out) hb)
            have n3_ := Aside0.mk (blk_below (g := gb220) (o := .cells #[.bool t216, .string t217, .string t218] 46 (0, 0)) (by (with_reducible repeat (first | apply blk_drewN | apply blk_drew | apply blk_alloc)); exact BK220.out) hb)
            have n4_ := Aside0.mk (below_step (by repeat (first | (with_reducible first | exact HB.out | apply below_alloc | apply pw_below_drewN | apply below_drew1 | refine below_set ?_ GE213.out | refine below_set ?_ GE220.out) | exact HB.out)) hb)
            have n5_ := Aside0.mk (hbox)
            have n6_ := Aside0.mk ((by rw [hg]; exact (below_size (by repeat (first | (with_reducible first | exact HB.out | apply below_alloc | apply pw_below_drewN | apply below_drew1 | refine below_set ?_ GE213.out | refine below_set ?_ GE220.out) | exact HB.out))) : w.heap.size ≤ gb234))
            have n7_ := Aside0.mk ((by rw [hg]; exact (below_size (by repeat (first | (with_reducible first | exact HB.out | apply below_alloc | apply pw_below_drewN | apply below_drew1 | refine below_set ?_ GE213.out | refine below_set ?_ GE220.out) | exact HB.out))) : w.heap.size ≤ gb234))
            have n8_ := Aside0.mk ((by rw [hg]; exact Nat.ne_of_lt (blk_lt (g := gb213) (o := .cells #[.slice Ao22 x214000_1.length co22, .bool x214001_1, .bool x214002_1, .int .i64 x214003_1] 27 (0, 0)) (by (with_reducible repeat (first | apply blk_drewN | apply blk_drew | apply blk_alloc)); exact BK213.out)) : gb213 ≠ gb234))
            have n9_ := Aside0.mk ((by rw [hg]; exact Nat.ne_of_gt (blk_lt (g := gb213) (o := .cells #[.slice Ao22 x214000_1.length co22, .bool x214001_1, .bool x214002_1, .int .i64 x214003_1] 27 (0, 0)) (by (with_reducible repeat (first | apply blk_drewN | apply blk_drew | apply blk_alloc)); exact BK213.out)) : gb234 ≠ gb213))
            have n10_ := Aside0.mk ((by rw [hg]; exact Nat.ne_of_lt (blk_lt (g := gb220) (o := .cells #[.bool t216, .string t217, .string t218] 46 (0, 0)) (by (with_reducible repeat (first | apply blk_drewN | apply blk_drew | apply blk_alloc)); exact BK220.out)) : gb220 ≠ gb234))
            have n11_ := Aside0.mk ((by rw [hg]; exact Nat.ne_of_gt (blk_lt (g := gb220) (o := .cells #[.bool t216, .string t217, .string t218] 46 (0, 0)) (by (with_reducible repeat (first | apply blk_drewN | apply blk_drew | apply blk_alloc)); exact BK220.out)) : gb234 ≠ gb220))
            clear HO_214000
            clear HO229
            clear BK213
            clear BK220
            clear HB
            have HO_214000 := n0_
            have HO229 := n1_
            have BK213 := n2_
            have BK220 := n3_
            have HB := n4_
            have BK234 := n5_
            have GW234 := n6_
            have GE234 := n7_
            have NB213_234 := n8_
            have NB234_213 := n9_
            have NB220_234 := n10_
            have NB234_220 := n11_
            clear n0_ n1_ n2_ n3_ n4_ n5_ n6_ n7_ n8_ n9_ n10_ n11_
            clear hb hbox hg
            refine hK.out _ _ ⟨(blk_cell BK213.out 0).trans rfl, (blk_cell BK213.out 1).trans rfl, (blk_cell BK213.out 2).trans rfl, (blk_cell BK213.out 3).trans rfl, ((HB.out.cell (World.block_lt_of_cell? w _ hw221_0)).trans hw221_0), ((HB.out.cell (World.block_lt_of_cell? w _ hw221_1)).trans hw221_1), ((HB.out.cell (World.block_lt_of_cell? w _ hw221_2)).trans hw221_2), ((HB.out.cell (World.block_lt_of_cell? w _ hw221_3)).trans hw221_3), ((HB.out.cell (World.block_lt_of_cell? w _ hw221_4)).trans hw221_4), ((HB.out.cell (World.block_lt_of_cell? w _ hw221_5)).trans hw221_5), ((HB.out.cell (World.block_lt_of_cell? w _ hw222_0)).trans hw222_0), ((HB.out.cell (World.block_lt_of_cell? w _ hw222_1)).trans hw222_1), ((HB.out.cell (World.block_lt_of_cell? w _ hw222_2)).trans hw222_2), ((HB.out.cell (World.block_lt_of_cell? w _ hw222_3)).trans hw222_3), ((HB.out.cell (World.block_lt_of_cell? w _ hw222_4)).trans hw222_4), ((HB.out.cell (World.block_lt_of_cell? w _ hw222_5)).trans hw222_5)⟩ (fun hHeld => ?_)
            clear hK K
            refine norm_ (a' := ?_) ?_ ?_
            rotate_left
            ·
             show Act.put _ (some 13) _ = _
             simp only [Act.put, List.setIfInBounds_toArray, List.set_cons_zero, List.set_cons_succ, i64_w, i32_w]
             rfl
            exact norm_ (by simp only [putAll, Act.put, List.setIfInBounds_toArray, List.set_cons_zero, List.set_cons_succ]) (hCont (v228, gb234) _ ⟨hHeld, (by (with_reducible repeat (first | apply Kd.V_alloc | apply Kd.V_drewN | apply Kd.V_drew)); exact Kd.V_mono HO229.out (fun _ hk => ⟨hk.1.1, ⟨hk.1.2, hk.2⟩⟩)), (by (with_reducible repeat (first | apply Kd.V_alloc | apply Kd.V_drewN | apply Kd.V_drew)); exact Kd.V_mono HO_214000.out (fun _ hk => ⟨hk.1.1, ⟨hk.1.2, hk.2⟩⟩)), (by (with_reducible repeat (first | apply blk_drewN | apply blk_drew | apply blk_alloc)); exact BK213.out), (by (with_reducible repeat (first | apply blk_drewN | apply blk_drew | apply blk_alloc)); exact BK220.out), (by (with_reducible repeat (first | apply blk_drewN | apply blk_drew | apply blk_alloc)); exact BK234.out), GW234.out, GE234.out, NB213_234.out, NB234_213.out, NB220_234.out, NB234_220.out, (by repeat (first | (with_reducible first | exact HB.out | apply below_alloc | apply pw_below_drewN | apply below_drew1 | refine below_set ?_ GE213.out | refine below_set ?_ GE220.out | refine below_set ?_ GE234.out) | exact HB.out))⟩)
           ·
            skip
            refine box_step ?hg (N := 13) ?hd (cs := #[.slice none 0 0, .bool false, .bool false, .int .i64 0]) (t := 27) ?hr ?_; (case hd => rfl); (case hg => rfl); (case hr => first | (go_simp; done) | (go_simp; rfl))
            intro gb234 hg w30 hbox hb
            have n0_ := Aside0.mk (Kd.V_below (Kd.V_elderB (by (with_reducible repeat (first | apply Kd.V_alloc | apply Kd.V_drewN | apply Kd.V_drew)); exact HO_214000.out) gb234 (Nat.le_of_eq hg.symm)) hb)
            have n1_ := Aside0.mk (blk_below (g := gb213) (o := .cells #[.slice Ao22 x214000_1.length co22, .bool x214001_1, .bool x214002_1, .int .i64 x214003_1] 27 (0, 0)) (by (with_reducible repeat (first | apply blk_drewN | apply blk_drew | apply blk_alloc)); exact BK213.out) hb)
            have n2_ := Aside0.mk (blk_below (g := gb220) (o := .cells #[.bool t216, .string t217, .string t218] 46 (0, 0)) (by (with_reducible repeat (first | apply blk_drewN | apply blk_drew | apply blk_alloc)); exact BK220.out) hb)
            have n3_ := Aside0.mk (below_step (by repeat (first | (with_reducible first | exact HB.out | apply below_alloc | apply pw_below_drewN | apply below_drew1 | refine below_set ?_ GE213.out | refine below_set ?_ GE220.out) | exact HB.out)) hb)
            have n4_ := Aside0.mk (hbox)
            have n5_ := Aside0.mk ((by rw [hg]; exact (below_size (by repeat (first | (with_reducible first | exact HB.out | apply below_alloc | apply pw_below_drewN | apply below_drew1 | refine below_set ?_ GE213.out | refine below_set ?_ GE220.out) | exact HB.out))) : w.heap.size ≤ gb234))
            have n6_ := Aside0.mk ((by rw [hg]; exact (below_size (by repeat (first | (with_reducible first | exact HB.out | apply below_alloc | apply pw_below_drewN | apply below_drew1 | refine below_set ?_ GE213.out | refine below_set ?_ GE220.out) | exact HB.out))) : w.heap.size ≤ gb234))
            have n7_ := Aside0.mk ((by rw [hg]; exact Nat.ne_of_lt (blk_lt (g := gb213) (o := .cells #[.slice Ao22 x214000_1.length co22, .bool x214001_1, .bool x214002_1, .int .i64 x214003_1] 27 (0, 0)) (by (with_reducible repeat (first | apply blk_drewN | apply blk_drew | apply blk_alloc)); exact BK213.out)) : gb213 ≠ gb234))
            have n8_ := Aside0.mk ((by rw [hg]; exact Nat.ne_of_gt (blk_lt (g := gb213) (o := .cells #[.slice Ao22 x214000_1.length co22, .bool x214001_1, .bool x214002_1, .int .i64 x214003_1] 27 (0, 0)) (by (with_reducible repeat (first | apply blk_drewN | apply blk_drew | apply blk_alloc)); exact BK213.out)) : gb234 ≠ gb213))
            have n9_ := Aside0.mk ((by rw [hg]; exact Nat.ne_of_lt (blk_lt (g := gb220) (o := .cells #[.bool t216, .string t217, .string t218] 46 (0, 0)) (by (with_reducible repeat (first | apply blk_drewN | apply blk_drew | apply blk_alloc)); exact BK220.out)) : gb220 ≠ gb234))
            have n10_ := Aside0.mk ((by rw [hg]; exact Nat.ne_of_gt (blk_lt (g := gb220) (o := .cells #[.bool t216, .string t217, .string t218] 46 (0, 0)) (by (with_reducible repeat (first | apply blk_drewN | apply blk_drew | apply blk_alloc)); exact BK220.out)) : gb234 ≠ gb220))
            clear HO_214000
            clear BK213
            clear BK220
            clear HB
            have HO_214000 := n0_
            have BK213 := n1_
            have BK220 := n2_
            have HB := n3_
            have BK234 := n4_
            have GW234 := n5_
            have GE234 := n6_
            have NB213_234 := n7_
            have NB234_213 := n8_
            have NB220_234 := n9_
            have NB234_220 := n10_
            clear n0_ n1_ n2_ n3_ n4_ n5_ n6_ n7_ n8_ n9_ n10_
            clear hb hbox hg
            refine hK.out _ _ ⟨(blk_cell BK213.out 0).trans rfl, (blk_cell BK213.out 1).trans rfl, (blk_cell BK213.out 2).trans rfl, (blk_cell BK213.out 3).trans rfl, ((HB.out.cell (World.block_lt_of_cell? w _ hw221_0)).trans hw221_0), ((HB.out.cell (World.block_lt_of_cell? w _ hw221_1)).trans hw221_1), ((HB.out.cell (World.block_lt_of_cell? w _ hw221_2)).trans hw221_2), ((HB.out.cell (World.block_lt_of_cell? w _ hw221_3)).trans hw221_3), ((HB.out.cell (World.block_lt_of_cell? w _ hw221_4)).trans hw221_4), ((HB.out.cell (World.block_lt_of_cell? w _ hw221_5)).trans hw221_5), ((HB.out.cell (World.block_lt_of_cell? w _ hw222_0)).trans hw222_0), ((HB.out.cell (World.block_lt_of_cell? w _ hw222_1)).trans hw222_1), ((HB.out.cell (World.block_lt_of_cell? w _ hw222_2)).trans hw222_2), ((HB.out.cell (World.block_lt_of_cell? w _ hw222_3)).trans hw222_3), ((HB.out.cell (World.block_lt_of_cell? w _ hw222_4)).trans hw222_4), ((HB.out.cell (World.block_lt_of_cell? w _ hw222_5)).trans hw222_5)⟩ (fun hHeld => ?_)
            clear hK K
            refine norm_ (a' := ?_) ?_ ?_
            rotate_left
            ·
             show Act.put _ (some 13) _ = _
             simp only [Act.put, List.setIfInBounds_toArray, List.set_cons_zero, List.set_cons_succ, i64_w, i32_w]
             rfl
            refine one_ (i := 14) (N := some 72) #[true, true, true, true, true, true, true, true, true, true, true, true, true, true, true, false, false, false, true, false, false] rfl rfl (one_of HT_.out (by kernel_rfl)) (by decide) (fun K hK => ?_)
            refine goes_ Try.func19 (by kernel_rfl) rfl #[.agg #[.slice Ao22 x214000_1.length co22, .bool x214001_1, .bool x214002_1, .int .i64 x214003_1], .int .i64 (Int.tmod (wrap64 ((rd_T37 l0 x8_1).f1)) 2), .int .i64 (Int.tmod (wrap64 ((rd_T37 l0 x8_1).f2)) 6), .agg #[.bool false, .string ((rd_T37 l0 x8_1).f4), .string (⟨#[]⟩ : ByteArray)], .agg #[.int .i64 t223, .string t224, .string t225, .int .i64 t226]] (by rfl) rfl rfl (by (try simp only [List.map_toArray, List.map_cons, List.map_nil]); first | done | rfl | (simp only [List.length_drop, List.length_take]; rfl)) ?_
            with_reducible refine (nand_Program.calls (fun k_ => ((k_ ≠ gb213 ∧ k_ ≠ gb220) ∧ k_ ≠ gb234)) _ _ x214000_1 x214001_1 x214002_1 x214003_1 (Int.tmod (wrap64 ((rd_T37 l0 x8_1).f1)) 2) (Int.tmod (wrap64 ((rd_T37 l0 x8_1).f2)) 6) false ((rd_T37 l0 x8_1).f4) (⟨#[]⟩ : ByteArray) t223 t224 t225 t226 t227 t230 t231 t232 t233 _ ?side1 A18.out).mono ?_
            (case side1 => exact HO_214000.out)
            rintro e w31 ⟨v228, rfl, ho0, hb⟩
            refine ⟨_, rfl, ?_⟩
            have n0_ := Aside0.mk (Kd.V_below (by (with_reducible repeat (first | apply Kd.V_alloc | apply Kd.V_drewN | apply Kd.V_drew)); exact HO_214000.out) hb)
            have n1_ := Aside0.mk (Kd.V_lower (Kd.V_mono (ok' := fun k_ => k_ ≠ gb213 ∧ k_ ≠ gb220 ∧ k_ ≠ gb234) ho0 (fun k_ hk_ => ⟨Or.elim hk_ (fun hs_ => hs_.1.1) (fun hn_ => (Kd.freshB (g := gb213) (o := .cells #[.slice Ao22 x214000_1.length co22, .bool x214001_1, .bool x214002_1, .int .i64 x214003_1] 27 (0, 0)) (by (with_reducible repeat (first | apply blk_drewN | apply blk_drew | apply blk_alloc)); exact BK213.out) k_ hn_)), Or.elim hk_ (fun hs_ => hs_.1.2) (fun hn_ => (Kd.freshB (g := gb220) (o := .cells #[.bool t216, .string t217, .string t218] 46 (0, 0)) (by (with_reducible repeat (first | apply blk_drewN | apply blk_drew | apply blk_alloc)); exact BK220.out) k_ hn_)), Or.elim hk_ (fun hs_ => hs_.2) (fun hn_ => (Kd.freshB (g := gb234) (o := .cells #[.slice none 0 0, .bool false, .bool false, .int .i64 0] 27 (0, 0)) (by (with_reducible repeat (first | apply blk_drewN | apply blk_drew | apply blk_alloc)); exact BK234.out) k_ hn_))⟩)) (below_size (by repeat (first | (with_reducible first | exact HB.out | apply below_alloc | apply pw_below_drewN | apply below_drew1 | refine below_set ?_ GE213.out | refine below_set ?_ GE220.out | refine below_set ?_ GE234.out) | exact HB.out))))
            have n2_ := Aside0.mk (blk_below (g := gb213) (o := .cells #[.slice Ao22 x214000_1.length co22, .bool x214001_1, .bool x214002_1, .int .i64 x214003_1] 27 (0, 0)) (by (with_reducible repeat (first | apply blk_drewN | apply blk_drew | apply blk_alloc)); exact BK213.out) hb)
            have n3_ := Aside0.mk (blk_below (g := gb220) (o := .cells #[.bool t216, .string t217, .string t218] 46 (0, 0)) (by (with_reducible repeat (first | apply blk_drewN | apply blk_drew | apply blk_alloc)); exact BK220.out) hb)
            have n4_ := Aside0.mk (blk_below (g := gb234) (o := .cells #[.slice none 0 0, .bool false, .bool false, .int .i64 0] 27 (0, 0)) (by (with_reducible repeat (first | apply blk_drewN | apply blk_drew | apply blk_alloc)); exact BK234.out) hb)
            have n5_ := Aside0.mk (below_step (by repeat (first | (with_reducible first | exact HB.out | apply below_alloc | apply pw_below_drewN | apply below_drew1 | refine below_set ?_ GE213.out | refine below_set ?_ GE220.out | refine below_set ?_ GE234.out) | exact HB.out)) hb)
            clear HO_214000
            clear BK213
            clear BK220
            clear BK234
            clear HB
            have HO_214000 := n0_
            have HO229 := n1_
            have BK213 := n2_
            have BK220 := n3_
            have BK234 := n4_
            have HB := n5_
            clear n0_ n1_ n2_ n3_ n4_ n5_
            (try clear hb)
            (try clear hb2)
            (try clear hk)
            (try clear hi)
            (try clear ho0)
            refine hK.out _ _ ⟨(blk_cell BK213.out 0).trans rfl, (blk_cell BK213.out 1).trans rfl, (blk_cell BK213.out 2).trans rfl, (blk_cell BK213.out 3).trans rfl, ((HB.out.cell (World.block_lt_of_cell? w _ hw221_0)).trans hw221_0), ((HB.out.cell (World.block_lt_of_cell? w _ hw221_1)).trans hw221_1), ((HB.out.cell (World.block_lt_of_cell? w _ hw221_2)).trans hw221_2), ((HB.out.cell (World.block_lt_of_cell? w _ hw221_3)).trans hw221_3), ((HB.out.cell (World.block_lt_of_cell? w _ hw221_4)).trans hw221_4), ((HB.out.cell (World.block_lt_of_cell? w _ hw221_5)).trans hw221_5), ((HB.out.cell (World.block_lt_of_cell? w _ hw222_0)).trans hw222_0), ((HB.out.cell (World.block_lt_of_cell? w _ hw222_1)).trans hw222_1), ((HB.out.cell (World.block_lt_of_cell? w _ hw222_2)).trans hw222_2), ((HB.out.cell (World.block_lt_of_cell? w _ hw222_3)).trans hw222_3), ((HB.out.cell (World.block_lt_of_cell? w _ hw222_4)).trans hw222_4), ((HB.out.cell (World.block_lt_of_cell? w _ hw222_5)).trans hw222_5)⟩ (fun hHeld => ?_)
            clear hK K
            refine norm_ (a' := ?_) ?_ ?_
            rotate_left
            ·
             show Act.put _ (some 72) _ = _
             simp only [Act.put, List.setIfInBounds_toArray, List.set_cons_zero, List.set_cons_succ, i64_w, i32_w]
             rfl
            refine pure_ (i := 15) (N := some 57) (v := ?_) (a' := ?_) #[true, true, true, true, true, true, true, true, true, true, true, true, true, true, true, true, false, false, true, false, false] rfl rfl (any_of HT_.out (by kernel_rfl)) (fun _ _ _ h => h) (Or.inl ⟨by rfl, ?_⟩) ?_ ?_
            rotate_left
            ·
             intro w'
             go_simp
             with_reducible rfl
            rotate_left
            ·
             simp only [Act.put, List.setIfInBounds_toArray, List.set_cons_zero, List.set_cons_succ, i64_w, i32_w]
             rfl
            refine pure_ (i := 16) (N := some 73) (v := ?_) (a' := ?_) #[true, true, true, true, true, true, true, true, true, true, true, true, true, true, true, true, true, false, true, false, false] rfl rfl (any_of HT_.out (by kernel_rfl)) (fun _ _ _ h => h) (Or.inl ⟨by rfl, ?_⟩) ?_ ?_
            rotate_left
            ·
             intro w'
             go_simp
             with_reducible rfl
            rotate_left
            ·
             simp only [Act.put, List.setIfInBounds_toArray, List.set_cons_zero, List.set_cons_succ, i64_w, i32_w]
             rfl
            refine pure_ (i := 17) (N := some 74) (v := ?_) (a' := ?_) #[true, true, true, true, true, true, true, true, true, true, true, true, true, true, true, true, true, true, true, false, false] rfl rfl (any_of HT_.out (by kernel_rfl)) (fun _ _ _ h => h) (Or.inl ⟨by rfl, ?_⟩) ?_ ?_
            rotate_left
            ·
             intro w'
             go_simp
             with_reducible rfl
            rotate_left
            ·
             simp only [Act.put, List.setIfInBounds_toArray, List.set_cons_zero, List.set_cons_succ, i64_w, i32_w]
             rfl
            exact norm_ (by simp only [putAll, Act.put, List.setIfInBounds_toArray, List.set_cons_zero, List.set_cons_succ]) (hCont (v228, gb234) _ ⟨hHeld, (by (with_reducible repeat (first | apply Kd.V_alloc | apply Kd.V_drewN | apply Kd.V_drew)); exact HO229.out), (by (with_reducible repeat (first | apply Kd.V_alloc | apply Kd.V_drewN | apply Kd.V_drew)); exact Kd.V_mono HO_214000.out (fun _ hk => ⟨hk.1.1, ⟨hk.1.2, hk.2⟩⟩)), (by (with_reducible repeat (first | apply blk_drewN | apply blk_drew | apply blk_alloc)); exact BK213.out), (by (with_reducible repeat (first | apply blk_drewN | apply blk_drew | apply blk_alloc)); exact BK220.out), (by (with_reducible repeat (first | apply blk_drewN | apply blk_drew | apply blk_alloc)); exact BK234.out), GW234.out, GE234.out, NB213_234.out, NB234_213.out, NB220_234.out, NB234_220.out, (by repeat (first | (with_reducible first | exact HB.out | apply below_alloc | apply pw_below_drewN | apply below_drew1 | refine below_set ?_ GE213.out | refine below_set ?_ GE220.out | refine below_set ?_ GE234.out) | exact HB.out))⟩)
          ·
           skip
           refine box_step ?hg (N := 13) ?hd (cs := #[.slice none 0 0, .bool false, .bool false, .int .i64 0]) (t := 27) ?hr ?_; (case hd => rfl); (case hg => rfl); (case hr => first | (go_simp; done) | (go_simp; rfl))
           intro gb234 hg w29 hbox hb
           have n0_ := Aside0.mk (Kd.V_below (Kd.V_elderB (by (with_reducible repeat (first | apply Kd.V_alloc | apply Kd.V_drewN | apply Kd.V_drew)); exact HO_214000.out) gb234 (Nat.le_of_eq hg.symm)) hb)
           have n1_ := Aside0.mk (blk_below (g := gb213) (o := .cells #[.slice Ao22 x214000_1.length co22, .bool x214001_1, .bool x214002_1, .int .i64 x214003_1] 27 (0, 0)) (by (with_reducible repeat (first | apply blk_drewN | apply blk_drew | apply blk_alloc)); exact BK213.out) hb)
           have n2_ := Aside0.mk (blk_below (g := gb220) (o := .cells #[.bool t216, .string t217, .string t218] 46 (0, 0)) (by (with_reducible repeat (first | apply blk_drewN | apply blk_drew | apply blk_alloc)); exact BK220.out) hb)
           have n3_ := Aside0.mk (below_step (by repeat (first | (with_reducible first | exact HB.out | apply below_alloc | apply pw_below_drewN | apply below_drew1 | refine below_set ?_ GE213.out | refine below_set ?_ GE220.out) | exact HB.out)) hb)
           have n4_ := Aside0.mk (hbox)
           have n5_ := Aside0.mk ((by rw [hg]; exact (below_size (by repeat (first | (with_reducible first | exact HB.out | apply below_alloc | apply pw_below_drewN | apply below_drew1 | refine below_set ?_ GE213.out | refine below_set ?_ GE220.out) | exact HB.out))) : w.heap.size ≤ gb234))
           have n6_ := Aside0.mk ((by rw [hg]; exact (below_size (by repeat (first | (with_reducible first | exact HB.out | apply below_alloc | apply pw_below_drewN | apply below_drew1 | refine below_set ?_ GE213.out | refine below_set ?_ GE220.out) | exact HB.out))) : w.heap.size ≤ gb234))
           have n7_ := Aside0.mk ((by rw [hg]; exact Nat.ne_of_lt (blk_lt (g := gb213) (o := .cells #[.slice Ao22 x214000_1.length co22, .bool x214001_1, .bool x214002_1, .int .i64 x214003_1] 27 (0, 0)) (by (with_reducible repeat (first | apply blk_drewN | apply blk_drew | apply blk_alloc)); exact BK213.out)) : gb213 ≠ gb234))
           have n8_ := Aside0.mk ((by rw [hg]; exact Nat.ne_of_gt (blk_lt (g := gb213) (o := .cells #[.slice Ao22 x214000_1.length co22, .bool x214001_1, .bool x214002_1, .int .i64 x214003_1] 27 (0, 0)) (by (with_reducible repeat (first | apply blk_drewN | apply blk_drew | apply blk_alloc)); exact BK213.out)) : gb234 ≠ gb213))
           have n9_ := Aside0.mk ((by rw [hg]; exact Nat.ne_of_lt (blk_lt (g := gb220) (o := .cells #[.bool t216, .string t217, .string t218] 46 (0, 0)) (by (with_reducible repeat (first | apply blk_drewN | apply blk_drew | apply blk_alloc)); exact BK220.out)) : gb220 ≠ gb234))
           have n10_ := Aside0.mk ((by rw [hg]; exact Nat.ne_of_gt (blk_lt (g := gb220) (o := .cells #[.bool t216, .string t217, .string t218] 46 (0, 0)) (by (with_reducible repeat (first | apply blk_drewN | apply blk_drew | apply blk_alloc)); exact BK220.out)) : gb234 ≠ gb220))
           clear HO_214000
           clear BK213
           clear BK220
           clear HB
           have HO_214000 := n0_
           have BK213 := n1_
           have BK220 := n2_
           have HB := n3_
           have BK234 := n4_
           have GW234 := n5_
           have GE234 := n6_
           have NB213_234 := n7_
           have NB234_213 := n8_
           have NB220_234 := n9_
           have NB234_220 := n10_
           clear n0_ n1_ n2_ n3_ n4_ n5_ n6_ n7_ n8_ n9_ n10_
           clear hb hbox hg
           refine hK.out _ _ ⟨(blk_cell BK213.out 0).trans rfl, (blk_cell BK213.out 1).trans rfl, (blk_cell BK213.out 2).trans rfl, (blk_cell BK213.out 3).trans rfl, ((HB.out.cell (World.block_lt_of_cell? w _ hw221_0)).trans hw221_0), ((HB.out.cell (World.block_lt_of_cell? w _ hw221_1)).trans hw221_1), ((HB.out.cell (World.block_lt_of_cell? w _ hw221_2)).trans hw221_2), ((HB.out.cell (World.block_lt_of_cell? w _ hw221_3)).trans hw221_3), ((HB.out.cell (World.block_lt_of_cell? w _ hw221_4)).trans hw221_4), ((HB.out.cell (World.block_lt_of_cell? w _ hw221_5)).trans hw221_5), ((HB.out.cell (World.block_lt_of_cell? w _ hw222_0)).trans hw222_0), ((HB.out.cell (World.block_lt_of_cell? w _ hw222_1)).trans hw222_1), ((HB.out.cell (World.block_lt_of_cell? w _ hw222_2)).trans hw222_2), ((HB.out.cell (World.block_lt_of_cell? w _ hw222_3)).trans hw222_3), ((HB.out.cell (World.block_lt_of_cell? w _ hw222_4)).trans hw222_4), ((HB.out.cell (World.block_lt_of_cell? w _ hw222_5)).trans hw222_5)⟩ (fun hHeld => ?_)
           clear hK K
           refine norm_ (a' := ?_) ?_ ?_
           rotate_left
           ·
            show Act.put _ (some 13) _ = _
            simp only [Act.put, List.setIfInBounds_toArray, List.set_cons_zero, List.set_cons_succ, i64_w, i32_w]
            rfl
           refine one_ (i := 13) (N := some 71) #[true, true, true, true, true, true, true, true, true, true, true, true, true, true, false, false, false, false, true, false, false] rfl rfl (one_of HT_.out (by kernel_rfl)) (by decide) (fun K hK => ?_)
           refine goes_ Try.func21 (by kernel_rfl) rfl #[.agg #[.int .u8 ((rd_T37 l0 x8_1).f0), .int .u8 ((rd_T37 l0 x8_1).f1), .int .u8 ((rd_T37 l0 x8_1).f2), .int .u8 ((rd_T37 l0 x8_1).f3), .string ((rd_T37 l0 x8_1).f4), .string ((rd_T37 l0 x8_1).f5)]] (by rfl) rfl rfl (by (try simp only [List.map_toArray, List.map_cons, List.map_nil]); first | done | rfl | (simp only [List.length_drop, List.length_take]; rfl)) ?_
           with_reducible refine (clinkerlaw05_Fate.calls ((rd_T37 l0 x8_1).f0) ((rd_T37 l0 x8_1).f1) ((rd_T37 l0 x8_1).f2) ((rd_T37 l0 x8_1).f3) ((rd_T37 l0 x8_1).f4) ((rd_T37 l0 x8_1).f5) t223 t224 t225 t226 _ A17.out).mono ?_
           rintro e w30 ⟨rfl, hb⟩
           refine ⟨_, rfl, ?_⟩
           have n0_ := Aside0.mk (Kd.V_below (by (with_reducible repeat (first | apply Kd.V_alloc | apply Kd.V_drewN | apply Kd.V_drew)); exact HO_214000.out) hb)
           have n1_ := Aside0.mk (blk_below (g := gb213) (o := .cells #[.slice Ao22 x214000_1.length co22, .bool x214001_1, .bool x214002_1, .int .i64 x214003_1] 27 (0, 0)) (by (with_reducible repeat (first | apply blk_drewN | apply blk_drew | apply blk_alloc)); exact BK213.out) hb)
           have n2_ := Aside0.mk (blk_below (g := gb220) (o := .cells #[.bool t216, .string t217, .string t218] 46 (0, 0)) (by (with_reducible repeat (first | apply blk_drewN | apply blk_drew | apply blk_alloc)); exact BK220.out) hb)
           have n3_ := Aside0.mk (blk_below (g := gb234) (o := .cells #[.slice none 0 0, .bool false, .bool false, .int .i64 0] 27 (0, 0)) (by (with_reducible repeat (first | apply blk_drewN | apply blk_drew | apply blk_alloc)); exact BK234.out) hb)
           have n4_ := Aside0.mk (below_step (by repeat (first | (with_reducible first | exact HB.out | apply below_alloc | apply pw_below_drewN | apply below_drew1 | refine below_set ?_ GE213.out | refine below_set ?_ GE220.out | refine below_set ?_ GE234.out) | exact HB.out)) hb)
           clear HO_214000
           clear BK213
           clear BK220
           clear BK234
           clear HB
           have HO_214000 := n0_
           have BK213 := n1_
           have BK220 := n2_
           have BK234 := n3_
           have HB := n4_
           clear n0_ n1_ n2_ n3_ n4_
           (try clear hb)
           (try clear hb2)
           (try clear hk)
           (try clear hi)
           refine hK.out _ _ ⟨(blk_cell BK213.out 0).trans rfl, (blk_cell BK213.out 1).trans rfl, (blk_cell BK213.out 2).trans rfl, (blk_cell BK213.out 3).trans rfl, ((HB.out.cell (World.block_lt_of_cell? w _ hw221_0)).trans hw221_0), ((HB.out.cell (World.block_lt_of_cell? w _ hw221_1)).trans hw221_1), ((HB.out.cell (World.block_lt_of_cell? w _ hw221_2)).trans hw221_2), ((HB.out.cell (World.block_lt_of_cell? w _ hw221_3)).trans hw221_3), ((HB.out.cell (World.block_lt_of_cell? w _ hw221_4)).trans hw221_4), ((HB.out.cell (World.block_lt_of_cell? w _ hw221_5)).trans hw221_5), ((HB.out.cell (World.block_lt_of_cell? w _ hw222_0)).trans hw222_0), ((HB.out.cell (World.block_lt_of_cell? w _ hw222_1)).trans hw222_1), ((HB.out.cell (World.block_lt_of_cell? w _ hw222_2)).trans hw222_2), ((HB.out.cell (World.block_lt_of_cell? w _ hw222_3)).trans hw222_3), ((HB.out.cell (World.block_lt_of_cell? w _ hw222_4)).trans hw222_4), ((HB.out.cell (World.block_lt_of_cell? w _ hw222_5)).trans hw222_5)⟩ (fun hHeld => ?_)
           clear hK K
           refine norm_ (a' := ?_) ?_ ?_
           rotate_left
           ·
            show Act.put _ (some 71) _ = _
            simp only [Act.put, List.setIfInBounds_toArray, List.set_cons_zero, List.set_cons_succ, i64_w, i32_w]
            rfl
           refine one_ (i := 14) (N := some 72) #[true, true, true, true, true, true, true, true, true, true, true, true, true, true, true, false, false, false, true, false, false] rfl rfl (one_of HT_.out (by kernel_rfl)) (by decide) (fun K hK => ?_)
           refine goes_ Try.func19 (by kernel_rfl) rfl #[.agg #[.slice Ao22 x214000_1.length co22, .bool x214001_1, .bool x214002_1, .int .i64 x214003_1], .int .i64 (Int.tmod (wrap64 ((rd_T37 l0 x8_1).f1)) 2), .int .i64 (Int.tmod (wrap64 ((rd_T37 l0 x8_1).f2)) 6), .agg #[.bool false, .string ((rd_T37 l0 x8_1).f4), .string (⟨#[]⟩ : ByteArray)], .agg #[.int .i64 t223, .string t224, .string t225, .int .i64 t226]] (by rfl) rfl rfl (by (try simp only [List.map_toArray, List.map_cons, List.map_nil]); first | done | rfl | (simp only [List.length_drop, List.length_take]; rfl)) ?_
           with_reducible refine (nand_Program.calls (fun k_ => ((k_ ≠ gb213 ∧ k_ ≠ gb220) ∧ k_ ≠ gb234)) _ _ x214000_1 x214001_1 x214002_1 x214003_1 (Int.tmod (wrap64 ((rd_T37 l0 x8_1).f1)) 2) (Int.tmod (wrap64 ((rd_T37 l0 x8_1).f2)) 6) false ((rd_T37 l0 x8_1).f4) (⟨#[]⟩ : ByteArray) t223 t224 t225 t226 t227 t230 t231 t232 t233 _ ?side1 A18.out).mono ?_
           (case side1 => exact HO_214000.out)
           rintro e w31 ⟨v228, rfl, ho0, hb⟩
           refine ⟨_, rfl, ?_⟩
           have n0_ := Aside0.mk (Kd.V_below (by (with_reducible repeat (first | apply Kd.V_alloc | apply Kd.V_drewN | apply Kd.V_drew)); exact HO_214000.out) hb)
           have n1_ := Aside0.mk (Kd.V_lower (Kd.V_mono (ok' := fun k_ => k_ ≠ gb213 ∧ k_ ≠ gb220 ∧ k_ ≠ gb234) ho0 (fun k_ hk_ => ⟨Or.elim hk_ (fun hs_ => hs_.1.1) (fun hn_ => (Kd.freshB (g := gb213) (o := .cells #[.slice Ao22 x214000_1.length co22, .bool x214001_1, .bool x214002_1, .int .i64 x214003_1] 27 (0, 0)) (by (with_reducible repeat (first | apply blk_drewN | apply blk_drew | apply blk_alloc)); exact BK213.out) k_ hn_)), Or.elim hk_ (fun hs_ => hs_.1.2) (fun hn_ => (Kd.freshB (g := gb220) (o := .cells #[.bool t216, .string t217, .string t218] 46 (0, 0)) (by (with_reducible repeat (first | apply blk_drewN | apply blk_drew | apply blk_alloc)); exact BK220.out) k_ hn_)), Or.elim hk_ (fun hs_ => hs_.2) (fun hn_ => (Kd.freshB (g := gb234) (o := .cells #[.slice none 0 0, .bool false, .bool false, .int .i64 0] 27 (0, 0)) (by (with_reducible repeat (first | apply blk_drewN | apply blk_drew | apply blk_alloc)); exact BK234.out) k_ hn_))⟩)) (below_size (by repeat (first | (with_reducible first | exact HB.out | apply below_alloc | apply pw_below_drewN | apply below_drew1 | refine below_set ?_ GE213.out | refine below_set ?_ GE220.out | refine below_set ?_ GE234.out) | exact HB.out))))
           have n2_ := Aside0.mk (blk_below (g := gb213) (o := .cells #[.slice Ao22 x214000_1.length co22, .bool x214001_1, .bool x214002_1, .int .i64 x214003_1] 27 (0, 0)) (by (with_reducible repeat (first | apply blk_drewN | apply blk_drew | apply blk_alloc)); exact BK213.out) hb)
           have n3_ := Aside0.mk (blk_below (g := gb220) (o := .cells #[.bool t216, .string t217, .string t218] 46 (0, 0)) (by (with_reducible repeat (first | apply blk_drewN | apply blk_drew | apply blk_alloc)); exact BK220.out) hb)
           have n4_ := Aside0.mk (blk_below (g := gb234) (o := .cells #[.slice none 0 0, .bool false, .bool false, .int .i64 0] 27 (0, 0)) (by (with_reducible repeat (first | apply blk_drewN | apply blk_drew | apply blk_alloc)); exact BK234.out) hb)
           have n5_ := Aside0.mk (below_step (by repeat (first | (with_reducible first | exact HB.out | apply below_alloc | apply pw_below_drewN | apply below_drew1 | refine below_set ?_ GE213.out | refine below_set ?_ GE220.out | refine below_set ?_ GE234.out) | exact HB.out)) hb)
           clear HO_214000
           clear BK213
           clear BK220
           clear BK234
           clear HB
           have HO_214000 := n0_
           have HO229 := n1_
           have BK213 := n2_
           have BK220 := n3_
           have BK234 := n4_
           have HB := n5_
           clear n0_ n1_ n2_ n3_ n4_ n5_
           (try clear hb)
           (try clear hb2)
           (try clear hk)
           (try clear hi)
           (try clear ho0)
           refine hK.out _ _ ⟨(blk_cell BK213.out 0).trans rfl, (blk_cell BK213.out 1).trans rfl, (blk_cell BK213.out 2).trans rfl, (blk_cell BK213.out 3).trans rfl, ((HB.out.cell (World.block_lt_of_cell? w _ hw221_0)).trans hw221_0), ((HB.out.cell (World.block_lt_of_cell? w _ hw221_1)).trans hw221_1), ((HB.out.cell (World.block_lt_of_cell? w _ hw221_2)).trans hw221_2), ((HB.out.cell (World.block_lt_of_cell? w _ hw221_3)).trans hw221_3), ((HB.out.cell (World.block_lt_of_cell? w _ hw221_4)).trans hw221_4), ((HB.out.cell (World.block_lt_of_cell? w _ hw221_5)).trans hw221_5), ((HB.out.cell (World.block_lt_of_cell? w _ hw222_0)).trans hw222_0), ((HB.out.cell (World.block_lt_of_cell? w _ hw222_1)).trans hw222_1), ((HB.out.cell (World.block_lt_of_cell? w _ hw222_2)).trans hw222_2), ((HB.out.cell (World.block_lt_of_cell? w _ hw222_3)).trans hw222_3), ((HB.out.cell (World.block_lt_of_cell? w _ hw222_4)).trans hw222_4), ((HB.out.cell (World.block_lt_of_cell? w _ hw222_5)).trans hw222_5)⟩ (fun hHeld => ?_)
           clear hK K
           refine norm_ (a' := ?_) ?_ ?_
           rotate_left
           ·
            show Act.put _ (some 72) _ = _
            simp only [Act.put, List.setIfInBounds_toArray, List.set_cons_zero, List.set_cons_succ, i64_w, i32_w]
            rfl
           refine pure_ (i := 15) (N := some 57) (v := ?_) (a' := ?_) #[true, true, true, true, true, true, true, true, true, true, true, true, true, true, true, true, false, false, true, false, false] rfl rfl (any_of HT_.out (by kernel_rfl)) (fun _ _ _ h => h) (Or.inl ⟨by rfl, ?_⟩) ?_ ?_
           rotate_left
           ·
            intro w'
            go_simp
            with_reducible rfl
           rotate_left
           ·
            simp only [Act.put, List.setIfInBounds_toArray, List.set_cons_zero, List.set_cons_succ, i64_w, i32_w]
            rfl
           refine pure_ (i := 16) (N := some 73) (v := ?_) (a' := ?_) #[true, true, true, true, true, true, true, true, true, true, true, true, true, true, true, true, true, false, true, false, false] rfl rfl (any_of HT_.out (by kernel_rfl)) (fun _ _ _ h => h) (Or.inl ⟨by rfl, ?_⟩) ?_ ?_
           rotate_left
           ·
            intro w'
            go_simp
            with_reducible rfl
           rotate_left
           ·
            simp only [Act.put, List.setIfInBounds_toArray, List.set_cons_zero, List.set_cons_succ, i64_w, i32_w]
            rfl
           refine pure_ (i := 17) (N := some 74) (v := ?_) (a' := ?_) #[true, true, true, true, true, true, true, true, true, true, true, true, true, true, true, true, true, true, true, false, false] rfl rfl (any_of HT_.out (by kernel_rfl)) (fun _ _ _ h => h) (Or.inl ⟨by rfl, ?_⟩) ?_ ?_
           rotate_left
           ·
            intro w'
            go_simp
            with_reducible rfl
           rotate_left
           ·
            simp only [Act.put, List.setIfInBounds_toArray, List.set_cons_zero, List.set_cons_succ, i64_w, i32_w]
            rfl
           exact norm_ (by simp only [putAll, Act.put, List.setIfInBounds_toArray, List.set_cons_zero, List.set_cons_succ]) (hCont (v228, gb234) _ ⟨hHeld, (by (with_reducible repeat (first | apply Kd.V_alloc | apply Kd.V_drewN | apply Kd.V_drew)); exact HO229.out), (by (with_reducible repeat (first | apply Kd.V_alloc | apply Kd.V_drewN | apply Kd.V_drew)); exact Kd.V_mono HO_214000.out (fun _ hk => ⟨hk.1.1, ⟨hk.1.2, hk.2⟩⟩)), (by (with_reducible repeat (first | apply blk_drewN | apply blk_drew | apply blk_alloc)); exact BK213.out), (by (with_reducible repeat (first | apply blk_drewN | apply blk_drew | apply blk_alloc)); exact BK220.out), (by (with_reducible repeat (first | apply blk_drewN | apply blk_drew | apply blk_alloc)); exact BK234.out), GW234.out, GE234.out, NB213_234.out, NB234_213.out, NB220_234.out, NB234_220.out, (by repeat (first | (with_reducible first | exact HB.out | apply below_alloc | apply pw_below_drewN | apply below_drew1 | refine below_set ?_ GE213.out | refine below_set ?_ GE220.out | refine below_set ?_ GE234.out) | exact HB.out))⟩)
         rintro ⟨v228, gb234⟩ w32 ⟨hS_, h0_, h1_, h2_, h3_, h4_, h5_, h6_, h7_, h8_, h9_, h10_, h11_⟩
         have n0_ : Aside0 (Kd.V k44 44 w32 w.heap.size (fun k_ => k_ ≠ gb213 ∧ k_ ≠ gb220 ∧ k_ ≠ gb234) v228 t227) := ⟨h0_⟩
         have n1_ : Aside0 (Kd.V k44 44 w32 w.heap.size (fun k_ => k_ ≠ gb213 ∧ k_ ≠ gb220 ∧ k_ ≠ gb234) (.slice Ao22 x214000_1.length co22) x214000_1) := ⟨h1_⟩
         have n2_ : Aside0 (w32.heap[gb213]? = some (.cells #[.slice Ao22 x214000_1.length co22, .bool x214001_1, .bool x214002_1, .int .i64 x214003_1] 27 (0, 0))) := ⟨h2_⟩
         have n3_ : Aside0 (w32.heap[gb220]? = some (.cells #[.bool t216, .string t217, .string t218] 46 (0, 0))) := ⟨h3_⟩
         have n4_ : Aside0 (w32.heap[gb234]? = some (.cells #[.slice none 0 0, .bool false, .bool false, .int .i64 0] 27 (0, 0))) := ⟨h4_⟩
         have n5_ : Aside0 (w.heap.size ≤ gb234) := ⟨h5_⟩
         have n6_ : Aside0 (w.heap.size ≤ gb234) := ⟨h6_⟩
         have n7_ : Aside0 (gb213 ≠ gb234) := ⟨h7_⟩
         have n8_ : Aside0 (gb234 ≠ gb213) := ⟨h8_⟩
         have n9_ : Aside0 (gb220 ≠ gb234) := ⟨h9_⟩
         have n10_ : Aside0 (gb234 ≠ gb220) := ⟨h10_⟩
         have n11_ : Aside0 (Below w.heap.size w w32) := ⟨h11_⟩
         clear HO_214000
         clear BK213
         clear BK220
         clear HB
         clear h0_ h1_ h2_ h3_ h4_ h5_ h6_ h7_ h8_ h9_ h10_ h11_
         have HO229 := n0_
         have HO_214000 := n1_
         have BK213 := n2_
         have BK220 := n3_
         have BK234 := n4_
         have GW234 := n5_
         have GE234 := n6_
         have NB213_234 := n7_
         have NB234_213 := n8_
         have NB220_234 := n9_
         have NB234_220 := n10_
         have HB := n11_
         clear n0_ n1_ n2_ n3_ n4_ n5_ n6_ n7_ n8_ n9_ n10_ n11_
         have hHeld : w32.cell? ⟨gb213, 0, none⟩ = some (.slice Ao22 x214000_1.length co22) ∧ w32.cell? ⟨gb213, 1, none⟩ = some (.bool x214001_1) ∧ w32.cell? ⟨gb213, 2, none⟩ = some (.bool x214002_1) ∧ w32.cell? ⟨gb213, 3, none⟩ = some (.int .i64 x214003_1) ∧ w32.cell? (ad214.add ((x8_1).toNat * 6)) = some (.int .u8 ((rd_T37 l0 x8_1).f0)) ∧ w32.cell? ⟨(ad214.add ((x8_1).toNat * 6)).block, (ad214.add ((x8_1).toNat * 6)).off + 1, none⟩ = some (.int .u8 ((rd_T37 l0 x8_1).f1)) ∧ w32.cell? ⟨(ad214.add ((x8_1).toNat * 6)).block, (ad214.add ((x8_1).toNat * 6)).off + 2, none⟩ = some (.int .u8 ((rd_T37 l0 x8_1).f2)) ∧ w32.cell? ⟨(ad214.add ((x8_1).toNat * 6)).block, (ad214.add ((x8_1).toNat * 6)).off + 3, none⟩ = some (.int .u8 ((rd_T37 l0 x8_1).f3)) ∧ w32.cell? ⟨(ad214.add ((x8_1).toNat * 6)).block, (ad214.add ((x8_1).toNat * 6)).off + 4, none⟩ = some (.string ((rd_T37 l0 x8_1).f4)) ∧ w32.cell? ⟨(ad214.add ((x8_1).toNat * 6)).block, (ad214.add ((x8_1).toNat * 6)).off + 5, none⟩ = some (.string ((rd_T37 l0 x8_1).f5)) ∧ w32.cell? (ad214.add ((x8_1).toNat * 6)) = some (.int .u8 ((rd_T37 l0 x8_1).f0)) ∧ w32.cell? ⟨(ad214.add ((x8_1).toNat * 6)).block, (ad214.add ((x8_1).toNat * 6)).off + 1, none⟩ = some (.int .u8 ((rd_T37 l0 x8_1).f1)) ∧ w32.cell? ⟨(ad214.add ((x8_1).toNat * 6)).block, (ad214.add ((x8_1).toNat * 6)).off + 2, none⟩ = some (.int .u8 ((rd_T37 l0 x8_1).f2)) ∧ w32.cell? ⟨(ad214.add ((x8_1).toNat * 6)).block, (ad214.add ((x8_1).toNat * 6)).off + 3, none⟩ = some (.int .u8 ((rd_T37 l0 x8_1).f3)) ∧ w32.cell? ⟨(ad214.add ((x8_1).toNat * 6)).block, (ad214.add ((x8_1).toNat * 6)).off + 4, none⟩ = some (.string ((rd_T37 l0 x8_1).f4)) ∧ w32.cell? ⟨(ad214.add ((x8_1).toNat * 6)).block, (ad214.add ((x8_1).toNat * 6)).off + 5, none⟩ = some (.string ((rd_T37 l0 x8_1).f5)) := hS_
         obtain ⟨Ao33, co33, eo33⟩ := Kd.V_slice HO229.out
         (first | subst eo33 | (injection eo33 with f1_ f2_ f3_; have f4_ := f1_.symm; have f5_ := f3_.symm; clear f1_ f2_ f3_; subst f4_; subst f5_))
         refine norm_ (a' := ?_) ?_ ?_
         rotate_left
         ·
          simp only [putAll, Act.put, List.setIfInBounds_toArray, List.set_cons_zero, List.set_cons_succ]
          rfl
         refine one_ (i := 19) (N := none) #[true, true, true, true, true, true, true, true, true, true, true, true, true, true, true, true, true, true, true, true, false] rfl rfl (one_of HT_.out (by kernel_rfl)) (by decide) (fun K hK => ?_)
         have hs34 : w32.cell? ⟨gb234, 0, none⟩ = some (.slice none 0 0) := (blk_cell BK234.out 0).trans rfl
         have hfs34 := blk_frozen BK234.out 0
         have hns34_0 := NB213_234.out
         have hns34_1 := NB220_234.out
         have hms34_0 := NB234_213.out
         have hms34_1 := NB234_220.out
         have hs35 : w32.cell? ⟨gb234, 1, none⟩ = some (.bool false) := (blk_cell BK234.out 1).trans rfl
         have hfs35 := blk_frozen BK234.out 1
         have hns35_0 := NB213_234.out
         have hns35_1 := NB220_234.out
         have hms35_0 := NB234_213.out
         have hms35_1 := NB234_220.out
         have hs36 : w32.cell? ⟨gb234, 2, none⟩ = some (.bool false) := (blk_cell BK234.out 2).trans rfl
         have hfs36 := blk_frozen BK234.out 2
         have hns36_0 := NB213_234.out
         have hns36_1 := NB220_234.out
         have hms36_0 := NB234_213.out
         have hms36_1 := NB234_220.out
         have hs37 : w32.cell? ⟨gb234, 3, none⟩ = some (.int .i64 0) := (blk_cell BK234.out 3).trans rfl
         have hfs37 := blk_frozen BK234.out 3
         have hns37_0 := NB213_234.out
         have hns37_1 := NB220_234.out
         have hms37_0 := NB234_213.out
         have hms37_1 := NB234_220.out
         refine skip_ (w1 := ?_) (by rfl) rfl ?_ ?_
         rotate_left
         ·
          go_simp
          rfl
         refine hK.out _ _ ⟨((cell_far (p := ⟨gb234, _, none⟩) NB213_234.out _).trans (((cell_far (p := ⟨gb234, _, none⟩) NB213_234.out _).trans (((cell_far (p := ⟨gb234, _, none⟩) NB213_234.out _).trans (((cell_far (p := ⟨gb234, _, none⟩) NB213_234.out _).trans (hHeld.1)))))))), ((cell_far (p := ⟨gb234, _, none⟩) NB213_234.out _).trans (((cell_far (p := ⟨gb234, _, none⟩) NB213_234.out _).trans (((cell_far (p := ⟨gb234, _, none⟩) NB213_234.out _).trans (((cell_far (p := ⟨gb234, _, none⟩) NB213_234.out _).trans (hHeld.2.1)))))))), ((cell_far (p := ⟨gb234, _, none⟩) NB213_234.out _).trans (((cell_far (p := ⟨gb234, _, none⟩) NB213_234.out _).trans (((cell_far (p := ⟨gb234, _, none⟩) NB213_234.out _).trans (((cell_far (p := ⟨gb234, _, none⟩) NB213_234.out _).trans (hHeld.2.2.1)))))))), ((cell_far (p := ⟨gb234, _, none⟩) NB213_234.out _).trans (((cell_far (p := ⟨gb234, _, none⟩) NB213_234.out _).trans (((cell_far (p := ⟨gb234, _, none⟩) NB213_234.out _).trans (((cell_far (p := ⟨gb234, _, none⟩) NB213_234.out _).trans (hHeld.2.2.2.1)))))))), ((cell_far (p := ⟨gb234, _, none⟩) (by first | exact Nat.ne_of_lt (Nat.lt_of_lt_of_le (by have := World.block_lt_of_cell? _ _ hw221_0; first | rwa [add_block] at this | exact this) GW234.out) | (rw [add_block]; exact Nat.ne_of_lt (Nat.lt_of_lt_of_le (by have := World.block_lt_of_cell? _ _ hw221_0; first | rwa [add_block] at this | exact this) GW234.out)) | (show (Addr.add _ _).block ≠ _; rw [add_block]; exact Nat.ne_of_lt (Nat.lt_of_lt_of_le (by have := World.block_lt_of_cell? _ _ hw221_0; first | rwa [add_block] at this | exact this) GW234.out)) | (dsimp only; exact Nat.ne_of_lt (Nat.lt_of_lt_of_le (by have := World.block_lt_of_cell? _ _ hw221_0; first | rwa [add_block] at this | exact this) GW234.out))) _).trans (((cell_far (p := ⟨gb234, _, none⟩) (by first | exact Nat.ne_of_lt (Nat.lt_of_lt_of_le (by have := World.block_lt_of_cell? _ _ hw221_0; first | rwa [add_block] at this | exact this) GW234.out) | (rw [add_block]; exact Nat.ne_of_lt (Nat.lt_of_lt_of_le (by have := World.block_lt_of_cell? _ _ hw221_0; first | rwa [add_block] at this | exact this) GW234.out)) | (show (Addr.add _ _).block ≠ _; rw [add_block]; exact Nat.ne_of_lt (Nat.lt_of_lt_of_le (by have := World.block_lt_of_cell? _ _ hw221_0; first | rwa [add_block] at this | exact this) GW234.out)) | (dsimp only; exact Nat.ne_of_lt (Nat.lt_of_lt_of_le (by have := World.block_lt_of_cell? _ _ hw221_0; first | rwa [add_block] at this | exact this) GW234.out))) _).trans (((cell_far (p := ⟨gb234, _, none⟩) (by first | exact Nat.ne_of_lt (Nat.lt_of_lt_of_le (by have := World.block_lt_of_cell? _ _ hw221_0; first | rwa [add_block] at this | exact this) GW234.out) | (rw [add_block]; exact Nat.ne_of_lt (Nat.lt_of_lt_of_le (by have := World.block_lt_of_cell? _ _ hw221_0; first | rwa [add_block] at this | exact this) GW234.out)) | (show (Addr.add _ _).block ≠ _; rw [add_block]; exact Nat.ne_of_lt (Nat.lt_of_lt_of_le (by have := World.block_lt_of_cell? _ _ hw221_0; first | rwa [add_block] at this | exact this) GW234.out)) | (dsimp only; exact Nat.ne_of_lt (Nat.lt_of_lt_of_le (by have := World.block_lt_of_cell? _ _ hw221_0; first | rwa [add_block] at this | exact this) GW234.out))) _).trans (((cell_far (p := ⟨gb234, _, none⟩) (by first | exact Nat.ne_of_lt (Nat.lt_of_lt_of_le (by have := World.block_lt_of_cell? _ _ hw221_0; first | rwa [add_block] at this | exact this) GW234.out) | (rw [add_block]; exact Nat.ne_of_lt (Nat.lt_of_lt_of_le (by have := World.block_lt_of_cell? _ _ hw221_0; first | rwa [add_block] at this | exact this) GW234.out)) | (show (Addr.add _ _).block ≠ _; rw [add_block]; exact Nat.ne_of_lt (Nat.lt_of_lt_of_le (by have := World.block_lt_of_cell? _ _ hw221_0; first | rwa [add_block] at this | exact this) GW234.out)) | (dsimp only; exact Nat.ne_of_lt (Nat.lt_of_lt_of_le (by have := World.block_lt_of_cell? _ _ hw221_0; first | rwa [add_block] at this | exact this) GW234.out))) _).trans (hHeld.2.2.2.2.1)))))))), ((cell_far (p := ⟨gb234, _, none⟩) (by first | exact Nat.ne_of_lt (Nat.lt_of_lt_of_le (by have := World.block_lt_of_cell? _ _ hw221_1; first | rwa [add_block] at this | exact this) GW234.out) | (rw [add_block]; exact Nat.ne_of_lt (Nat.lt_of_lt_of_le (by have := World.block_lt_of_cell? _ _ hw221_1; first | rwa [add_block] at this | exact this) GW234.out)) | (show (Addr.add _ _).block ≠ _; rw [add_block]; exact Nat.ne_of_lt (Nat.lt_of_lt_of_le (by have := World.block_lt_of_cell? _ _ hw221_1; first | rwa [add_block] at this | exact this) GW234.out)) | (dsimp only; exact Nat.ne_of_lt (Nat.lt_of_lt_of_le (by have := World.block_lt_of_cell? _ _ hw221_1; first | rwa [add_block] at this | exact this) GW234.out))) _).trans (((cell_far (p := ⟨gb234, _, none⟩) (by first | exact Nat.ne_of_lt (Nat.lt_of_lt_of_le (by have := World.block_lt_of_cell? _ _ hw221_1; first | rwa [add_block] at this | exact this) GW234.out) | (rw [add_block]; exact Nat.ne_of_lt (Nat.lt_of_lt_of_le (by have := World.block_lt_of_cell? _ _ hw221_1; first | rwa [add_block] at this | exact this) GW234.out)) | (show (Addr.add _ _).block ≠ _; rw [add_block]; exact Nat.ne_of_lt (Nat.lt_of_lt_of_le (by have := World.block_lt_of_cell? _ _ hw221_1; first | rwa [add_block] at this | exact this) GW234.out)) | (dsimp only; exact Nat.ne_of_lt (Nat.lt_of_lt_of_le (by have := World.block_lt_of_cell? _ _ hw221_1; first | rwa [add_block] at this | exact this) GW234.out))) _).trans (((cell_far (p := ⟨gb234, _, none⟩) (by first | exact Nat.ne_of_lt (Nat.lt_of_lt_of_le (by have := World.block_lt_of_cell? _ _ hw221_1; first | rwa [add_block] at this | exact this) GW234.out) | (rw [add_block]; exact Nat.ne_of_lt (Nat.lt_of_lt_of_le (by have := World.block_lt_of_cell? _ _ hw221_1; first | rwa [add_block] at this | exact this) GW234.out)) | (show (Addr.add _ _).block ≠ _; rw [add_block]; exact Nat.ne_of_lt (Nat.lt_of_lt_of_le (by have := World.block_lt_of_cell? _ _ hw221_1; first | rwa [add_block] at this | exact this) GW234.out)) | (dsimp only; exact Nat.ne_of_lt (Nat.lt_of_lt_of_le (by have := World.block_lt_of_cell? _ _ hw221_1; first | rwa [add_block] at this | exact this) GW234.out))) _).trans (((cell_far (p := ⟨gb234, _, none⟩) (by first | exact Nat.ne_of_lt (Nat.lt_of_lt_of_le (by have := World.block_lt_of_cell? _ _ hw221_1; first | rwa [add_block] at this | exact this) GW234.out) | (rw [add_block]; exact Nat.ne_of_lt (Nat.lt_of_lt_of_le (by have := World.block_lt_of_cell? _ _ hw221_1; first | rwa [add_block] at this | exact this) GW234.out)) | (show (Addr.add _ _).block ≠ _; rw [add_block]; exact Nat.ne_of_lt (Nat.lt_of_lt_of_le (by have := World.block_lt_of_cell? _ _ hw221_1; first | rwa [add_block] at this | exact this) GW234.out)) | (dsimp only; exact Nat.ne_of_lt (Nat.lt_of_lt_of_le (by have := World.block_lt_of_cell? _ _ hw221_1; first | rwa [add_block] at this | exact this) GW234.out))) _).trans (hHeld.2.2.2.2.2.1)))))))), ((cell_far (p := ⟨gb234, _, none⟩) (by first | exact Nat.ne_of_lt (Nat.lt_of_lt_of_le (by have := World.block_lt_of_cell? _ _ hw221_2; first | rwa [add_block] at this | exact this) GW234.out) | (rw [add_block]; exact Nat.ne_of_lt (Nat.lt_of_lt_of_le (by have := World.block_lt_of_cell? _ _ hw221_2; first | rwa [add_block] at this | exact this) GW234.out)) | (show (Addr.add _ _).block ≠ _; rw [add_block]; exact Nat.ne_of_lt (Nat.lt_of_lt_of_le (by have := World.block_lt_of_cell? _ _ hw221_2; first | rwa [add_block] at this | exact this) GW234.out)) | (dsimp only; exact Nat.ne_of_lt (Nat.lt_of_lt_of_le (by have := World.block_lt_of_cell? _ _ hw221_2; first | rwa [add_block] at this | exact this) GW234.out))) _).trans (((cell_far (p := ⟨gb234, _, none⟩) (by first | exact Nat.ne_of_lt (Nat.lt_of_lt_of_le (by have := World.block_lt_of_cell? _ _ hw221_2; first | rwa [add_block] at this | exact this) GW234.out) | (rw [add_block]; exact Nat.ne_of_lt (Nat.lt_of_lt_of_le (by have := World.block_lt_of_cell? _ _ hw221_2; first | rwa [add_block] at this | exact this) GW234.out)) | (show (Addr.add _ _).block ≠ _; rw [add_block]; exact Nat.ne_of_lt (Nat.lt_of_lt_of_le (by have := World.block_lt_of_cell? _ _ hw221_2; first | rwa [add_block] at this | exact this) GW234.out)) | (dsimp only; exact Nat.ne_of_lt (Nat.lt_of_lt_of_le (by have := World.block_lt_of_cell? _ _ hw221_2; first | rwa [add_block] at this | exact this) GW234.out))) _).trans (((cell_far (p := ⟨gb234, _, none⟩) (by first | exact Nat.ne_of_lt (Nat.lt_of_lt_of_le (by have := World.block_lt_of_cell? _ _ hw221_2; first | rwa [add_block] at this | exact this) GW234.out) | (rw [add_block]; exact Nat.ne_of_lt (Nat.lt_of_lt_of_le (by have := World.block_lt_of_cell? _ _ hw221_2; first | rwa [add_block] at this | exact this) GW234.out)) | (show (Addr.add _ _).block ≠ _; rw [add_block]; exact Nat.ne_of_lt (Nat.lt_of_lt_of_le (by have := World.block_lt_of_cell? _ _ hw221_2; first | rwa [add_block] at this | exact this) GW234.out)) | (dsimp only; exact Nat.ne_of_lt (Nat.lt_of_lt_of_le (by have := World.block_lt_of_cell? _ _ hw221_2; first | rwa [add_block] at this | exact this) GW234.out))) _).trans (((cell_far (p := ⟨gb234, _, none⟩) (by first | exact Nat.ne_of_lt (Nat.lt_of_lt_of_le (by have := World.block_lt_of_cell? _ _ hw221_2; first | rwa [add_block] at this | exact this) GW234.out) | (rw [add_block]; exact Nat.ne_of_lt (Nat.lt_of_lt_of_le (by have := World.block_lt_of_cell? _ _ hw221_2; first | rwa [add_block] at this | exact this) GW234.out)) | (show (Addr.add _ _).block ≠ _; rw [add_block]; exact Nat.ne_of_lt (Nat.lt_of_lt_of_le (by have := World.block_lt_of_cell? _ _ hw221_2; first | rwa [add_block] at this | exact this) GW234.out)) | (dsimp only; exact Nat.ne_of_lt (Nat.lt_of_lt_of_le (by have := World.block_lt_of_cell? _ _ hw221_2; first | rwa [add_block] at this | exact this) GW234.out))) _).trans (hHeld.2.2.2.2.2.2.1)))))))), ((cell_far (p := ⟨gb234, _, none⟩) (by first | exact Nat.ne_of_lt (Nat.lt_of_lt_of_le (by have := World.block_lt_of_cell? _ _ hw221_3; first | rwa [add_block] at this | exact this) GW234.out) | (rw [add_block]; exact Nat.ne_of_lt (Nat.lt_of_lt_of_le (by have := World.block_lt_of_cell? _ _ hw221_3; first | rwa [add_block] at this | exact this) GW234.out)) | (show (Addr.add _ _).block ≠ _; rw [add_block]; exact Nat.ne_of_lt (Nat.lt_of_lt_of_le (by have := World.block_lt_of_cell? _ _ hw221_3; first | rwa [add_block] at this | exact this) GW234.out)) | (dsimp only; exact Nat.ne_of_lt (Nat.lt_of_lt_of_le (by have := World.block_lt_of_cell? _ _ hw221_3; first | rwa [add_block] at this | exact this) GW234.out))) _).trans (((cell_far (p := ⟨gb234, _, none⟩) (by first | exact Nat.ne_of_lt (Nat.lt_of_lt_of_le (by have := World.block_lt_of_cell? _ _ hw221_3; first | rwa [add_block] at this | exact this) GW234.out) | (rw [add_block]; exact Nat.ne_of_lt (Nat.lt_of_lt_of_le (by have := World.block_lt_of_cell? _ _ hw221_3; first | rwa [add_block] at this | exact this) GW234.out)) | (show (Addr.add _ _).block ≠ _; rw [add_block]; exact Nat.ne_of_lt (Nat.lt_of_lt_of_le (by have := World.block_lt_of_cell? _ _ hw221_3; first | rwa [add_block] at this | exact this) GW234.out)) | (dsimp only; exact Nat.ne_of_lt (Nat.lt_of_lt_of_le (by have := World.block_lt_of_cell? _ _ hw221_3; first | rwa [add_block] at this | exact this) GW234.out))) _).trans (((cell_far (p := ⟨gb234, _, none⟩) (by first | exact Nat.ne_of_lt (Nat.lt_of_lt_of_le (by have := World.block_lt_of_cell? _ _ hw221_3; first | rwa [add_block] at this | exact this) GW234.out) | (rw [add_block]; exact Nat.ne_of_lt (Nat.lt_of_lt_of_le (by have := World.block_lt_of_cell? _ _ hw221_3; first | rwa [add_block] at this | exact this) GW234.out)) | (show (Addr.add _ _).block ≠ _; rw [add_block]; exact Nat.ne_of_lt (Nat.lt_of_lt_of_le (by have := World.block_lt_of_cell? _ _ hw221_3; first | rwa [add_block] at this | exact this) GW234.out)) | (dsimp only; exact Nat.ne_of_lt (Nat.lt_of_lt_of_le (by have := World.block_lt_of_cell? _ _ hw221_3; first | rwa [add_block] at this | exact this) GW234.out))) _).trans (((cell_far (p := ⟨gb234, _, none⟩) (by first | exact Nat.ne_of_lt (Nat.lt_of_lt_of_le (by have := World.block_lt_of_cell? _ _ hw221_3; first | rwa [add_block] at this | exact this) GW234.out) | (rw [add_block]; exact Nat.ne_of_lt (Nat.lt_of_lt_of_le (by have := World.block_lt_of_cell? _ _ hw221_3; first | rwa [add_block] at this | exact this) GW234.out)) | (show (Addr.add _ _).block ≠ _; rw [add_block]; exact Nat.ne_of_lt (Nat.lt_of_lt_of_le (by have := World.block_lt_of_cell? _ _ hw221_3; first | rwa [add_block] at this | exact this) GW234.out)) | (dsimp only; exact Nat.ne_of_lt (Nat.lt_of_lt_of_le (by have := World.block_lt_of_cell? _ _ hw221_3; first | rwa [add_block] at this | exact this) GW234.out))) _).trans (hHeld.2.2.2.2.2.2.2.1)))))))), ((cell_far (p := ⟨gb234, _, none⟩) (by first | exact Nat.ne_of_lt (Nat.lt_of_lt_of_le (by have := World.block_lt_of_cell? _ _ hw221_4; first | rwa [add_block] at this | exact this) GW234.out) | (rw [add_block]; exact Nat.ne_of_lt (Nat.lt_of_lt_of_le (by have := World.block_lt_of_cell? _ _ hw221_4; first | rwa [add_block] at this | exact this) GW234.out)) | (show (Addr.add _ _).block ≠ _; rw [add_block]; exact Nat.ne_of_lt (Nat.lt_of_lt_of_le (by have := World.block_lt_of_cell? _ _ hw221_4; first | rwa [add_block] at this | exact this) GW234.out)) | (dsimp only; exact Nat.ne_of_lt (Nat.lt_of_lt_of_le (by have := World.block_lt_of_cell? _ _ hw221_4; first | rwa [add_block] at this | exact this) GW234.out))) _).trans (((cell_far (p := ⟨gb234, _, none⟩) (by first | exact Nat.ne_of_lt (Nat.lt_of_lt_of_le (by have := World.block_lt_of_cell? _ _ hw221_4; first | rwa [add_block] at this | exact this) GW234.out) | (rw [add_block]; exact Nat.ne_of_lt (Nat.lt_of_lt_of_le (by have := World.block_lt_of_cell? _ _ hw221_4; first | rwa [add_block] at this | exact this) GW234.out)) | (show (Addr.add _ _).block ≠ _; rw [add_block]; exact Nat.ne_of_lt (Nat.lt_of_lt_of_le (by have := World.block_lt_of_cell? _ _ hw221_4; first | rwa [add_block] at this | exact this) GW234.out)) | (dsimp only; exact Nat.ne_of_lt (Nat.lt_of_lt_of_le (by have := World.block_lt_of_cell? _ _ hw221_4; first | rwa [add_block] at this | exact this) GW234.out))) _).trans (((cell_far (p := ⟨gb234, _, none⟩) (by first | exact Nat.ne_of_lt (Nat.lt_of_lt_of_le (by have := World.block_lt_of_cell? _ _ hw221_4; first | rwa [add_block] at this | exact this) GW234.out) | (rw [add_block]; exact Nat.ne_of_lt (Nat.lt_of_lt_of_le (by have := World.block_lt_of_cell? _ _ hw221_4; first | rwa [add_block] at this | exact this) GW234.out)) | (show (Addr.add _ _).block ≠ _; rw [add_block]; exact Nat.ne_of_lt (Nat.lt_of_lt_of_le (by have := World.block_lt_of_cell? _ _ hw221_4; first | rwa [add_block] at this | exact this) GW234.out)) | (dsimp only; exact Nat.ne_of_lt (Nat.lt_of_lt_of_le (by have := World.block_lt_of_cell? _ _ hw221_4; first | rwa [add_block] at this | exact this) GW234.out))) _).trans (((cell_far (p := ⟨gb234, _, none⟩) (by first | exact Nat.ne_of_lt (Nat.lt_of_lt_of_le (by have := World.block_lt_of_cell? _ _ hw221_4; first | rwa [add_block] at this | exact this) GW234.out) | (rw [add_block]; exact Nat.ne_of_lt (Nat.lt_of_lt_of_le (by have := World.block_lt_of_cell? _ _ hw221_4; first | rwa [add_block] at this | exact this) GW234.out)) | (show (Addr.add _ _).block ≠ _; rw [add_block]; exact Nat.ne_of_lt (Nat.lt_of_lt_of_le (by have := World.block_lt_of_cell? _ _ hw221_4; first | rwa [add_block] at this | exact this) GW234.out)) | (dsimp only; exact Nat.ne_of_lt (Nat.lt_of_lt_of_le (by have := World.block_lt_of_cell? _ _ hw221_4; first | rwa [add_block] at this | exact this) GW234.out))) _).trans (hHeld.2.2.2.2.2.2.2.2.1)))))))), ((cell_far (p := ⟨gb234, _, none⟩) (by first | exact Nat.ne_of_lt (Nat.lt_of_lt_of_le (by have := World.block_lt_of_cell? _ _ hw221_5; first | rwa [add_block] at this | exact this) GW234.out) | (rw [add_block]; exact Nat.ne_of_lt (Nat.lt_of_lt_of_le (by have := World.block_lt_of_cell? _ _ hw221_5; first | rwa [add_block] at this | exact this) GW234.out)) | (show (Addr.add _ _).block ≠ _; rw [add_block]; exact Nat.ne_of_lt (Nat.lt_of_lt_of_le (by have := World.block_lt_of_cell? _ _ hw221_5; first | rwa [add_block] at this | exact this) GW234.out)) | (dsimp only; exact Nat.ne_of_lt (Nat.lt_of_lt_of_le (by have := World.block_lt_of_cell? _ _ hw221_5; first | rwa [add_block] at this | exact this) GW234.out))) _).trans (((cell_far (p := ⟨gb234, _, none⟩) (by first | exact Nat.ne_of_lt (Nat.lt_of_lt_of_le (by have := World.block_lt_of_cell? _ _ hw221_5; first | rwa [add_block] at this | exact this) GW234.out) | (rw [add_block]; exact Nat.ne_of_lt (Nat.lt_of_lt_of_le (by have := World.block_lt_of_cell? _ _ hw221_5; first | rwa [add_block] at this | exact this) GW234.out)) | (show (Addr.add _ _).block ≠ _; rw [add_block]; exact Nat.ne_of_lt (Nat.lt_of_lt_of_le (by have := World.block_lt_of_cell? _ _ hw221_5; first | rwa [add_block] at this | exact this) GW234.out)) | (dsimp only; exact Nat.ne_of_lt (Nat.lt_of_lt_of_le (by have := World.block_lt_of_cell? _ _ hw221_5; first | rwa [add_block] at this | exact this) GW234.out))) _).trans (((cell_far (p := ⟨gb234, _, none⟩) (by first | exact Nat.ne_of_lt (Nat.lt_of_lt_of_le (by have := World.block_lt_of_cell? _ _ hw221_5; first | rwa [add_block] at this | exact this) GW234.out) | (rw [add_block]; exact Nat.ne_of_lt (Nat.lt_of_lt_of_le (by have := World.block_lt_of_cell? _ _ hw221_5; first | rwa [add_block] at this | exact this) GW234.out)) | (show (Addr.add _ _).block ≠ _; rw [add_block]; exact Nat.ne_of_lt (Nat.lt_of_lt_of_le (by have := World.block_lt_of_cell? _ _ hw221_5; first | rwa [add_block] at this | exact this) GW234.out)) | (dsimp only; exact Nat.ne_of_lt (Nat.lt_of_lt_of_le (by have := World.block_lt_of_cell? _ _ hw221_5; first | rwa [add_block] at this | exact this) GW234.out))) _).trans (((cell_far (p := ⟨gb234, _, none⟩) (by first | exact Nat.ne_of_lt (Nat.lt_of_lt_of_le (by have := World.block_lt_of_cell? _ _ hw221_5; first | rwa [add_block] at this | exact this) GW234.out) | (rw [add_block]; exact Nat.ne_of_lt (Nat.lt_of_lt_of_le (by have := World.block_lt_of_cell? _ _ hw221_5; first | rwa [add_block] at this | exact this) GW234.out)) | (show (Addr.add _ _).block ≠ _; rw [add_block]; exact Nat.ne_of_lt (Nat.lt_of_lt_of_le (by have := World.block_lt_of_cell? _ _ hw221_5; first | rwa [add_block] at this | exact this) GW234.out)) | (dsimp only; exact Nat.ne_of_lt (Nat.lt_of_lt_of_le (by have := World.block_lt_of_cell? _ _ hw221_5; first | rwa [add_block] at this | exact this) GW234.out))) _).trans (hHeld.2.2.2.2.2.2.2.2.2.1)))))))), ((cell_far (p := ⟨gb234, _, none⟩) (by first | exact Nat.ne_of_lt (Nat.lt_of_lt_of_le (by have := World.block_lt_of_cell? _ _ hw222_0; first | rwa [add_block] at this | exact this) GW234.out) | (rw [add_block]; exact Nat.ne_of_lt (Nat.lt_of_lt_of_le (by have := World.block_lt_of_cell? _ _ hw222_0; first | rwa [add_block] at this | exact this) GW234.out)) | (show (Addr.add _ _).block ≠ _; rw [add_block]; exact Nat.ne_of_lt (Nat.lt_of_lt_of_le (by have := World.block_lt_of_cell? _ _ hw222_0; first | rwa [add_block] at this | exact this) GW234.out)) | (dsimp only; exact Nat.ne_of_lt (Nat.lt_of_lt_of_le (by have := World.block_lt_of_cell? _ _ hw222_0; first | rwa [add_block] at this | exact this) GW234.out))) _).trans (((cell_far (p := ⟨gb234, _, none⟩) (by first | exact Nat.ne_of_lt (Nat.lt_of_lt_of_le (by have := World.block_lt_of_cell? _ _ hw222_0; first | rwa [add_block] at this | exact this) GW234.out) | (rw [add_block]; exact Nat.ne_of_lt (Nat.lt_of_lt_of_le (by have := World.block_lt_of_cell? _ _ hw222_0; first | rwa [add_block] at this | exact this) GW234.out)) | (show (Addr.add _ _).block ≠ _; rw [add_block]; exact Nat.ne_of_lt (Nat.lt_of_lt_of_le (by have := World.block_lt_of_cell? _ _ hw222_0; first | rwa [add_block] at this | exact this) GW234.out)) | (dsimp only; exact Nat.ne_of_lt (Nat.lt_of_lt_of_le (by have := World.block_lt_of_cell? _ _ hw222_0; first | rwa [add_block] at this | exact this) GW234.out))) _).trans (((cell_far (p := ⟨gb234, _, none⟩) (by first | exact Nat.ne_of_lt (Nat.lt_of_lt_of_le (by have := World.block_lt_of_cell? _ _ hw222_0; first | rwa [add_block] at this | exact this) GW234.out) | (rw [add_block]; exact Nat.ne_of_lt (Nat.lt_of_lt_of_le (by have := World.block_lt_of_cell? _ _ hw222_0; first | rwa [add_block] at this | exact this) GW234.out)) | (show (Addr.add _ _).block ≠ _; rw [add_block]; exact Nat.ne_of_lt (Nat.lt_of_lt_of_le (by have := World.block_lt_of_cell? _ _ hw222_0; first | rwa [add_block] at this | exact this) GW234.out)) | (dsimp only; exact Nat.ne_of_lt (Nat.lt_of_lt_of_le (by have := World.block_lt_of_cell? _ _ hw222_0; first | rwa [add_block] at this | exact this) GW234.out))) _).trans (((cell_far (p := ⟨gb234, _, none⟩) (by first | exact Nat.ne_of_lt (Nat.lt_of_lt_of_le (by have := World.block_lt_of_cell? _ _ hw222_0; first | rwa [add_block] at this | exact this) GW234.out) | (rw [add_block]; exact Nat.ne_of_lt (Nat.lt_of_lt_of_le (by have := World.block_lt_of_cell? _ _ hw222_0; first | rwa [add_block] at this | exact this) GW234.out)) | (show (Addr.add _ _).block ≠ _; rw [add_block]; exact Nat.ne_of_lt (Nat.lt_of_lt_of_le (by have := World.block_lt_of_cell? _ _ hw222_0; first | rwa [add_block] at this | exact this) GW234.out)) | (dsimp only; exact Nat.ne_of_lt (Nat.lt_of_lt_of_le (by have := World.block_lt_of_cell? _ _ hw222_0; first | rwa [add_block] at this | exact this) GW234.out))) _).trans (hHeld.2.2.2.2.2.2.2.2.2.2.1)))))))), ((cell_far (p := ⟨gb234, _, none⟩) (by first | exact Nat.ne_of_lt (Nat.lt_of_lt_of_le (by have := World.block_lt_of_cell? _ _ hw222_1; first | rwa [add_block] at this | exact this) GW234.out) | (rw [add_block]; exact Nat.ne_of_lt (Nat.lt_of_lt_of_le (by have := World.block_lt_of_cell? _ _ hw222_1; first | rwa [add_block] at this | exact this) GW234.out)) | (show (Addr.add _ _).block ≠ _; rw [add_block]; exact Nat.ne_of_lt (Nat.lt_of_lt_of_le (by have := World.block_lt_of_cell? _ _ hw222_1; first | rwa [add_block] at this | exact this) GW234.out)) | (dsimp only; exact Nat.ne_of_lt (Nat.lt_of_lt_of_le (by have := World.block_lt_of_cell? _ _ hw222_1; first | rwa [add_block] at this | exact this) GW234.out))) _).trans (((cell_far (p := ⟨gb234, _, none⟩) (by first | exact Nat.ne_of_lt (Nat.lt_of_lt_of_le (by have := World.block_lt_of_cell? _ _ hw222_1; first | rwa [add_block] at this | exact this) GW234.out) | (rw [add_block]; exact Nat.ne_of_lt (Nat.lt_of_lt_of_le (by have := World.block_lt_of_cell? _ _ hw222_1; first | rwa [add_block] at this | exact this) GW234.out)) | (show (Addr.add _ _).block ≠ _; rw [add_block]; exact Nat.ne_of_lt (Nat.lt_of_lt_of_le (by have := World.block_lt_of_cell? _ _ hw222_1; first | rwa [add_block] at this | exact this) GW234.out)) | (dsimp only; exact Nat.ne_of_lt (Nat.lt_of_lt_of_le (by have := World.block_lt_of_cell? _ _ hw222_1; first | rwa [add_block] at this | exact this) GW234.out))) _).trans (((cell_far (p := ⟨gb234, _, none⟩) (by first | exact Nat.ne_of_lt (Nat.lt_of_lt_of_le (by have := World.block_lt_of_cell? _ _ hw222_1; first | rwa [add_block] at this | exact this) GW234.out) | (rw [add_block]; exact Nat.ne_of_lt (Nat.lt_of_lt_of_le (by have := World.block_lt_of_cell? _ _ hw222_1; first | rwa [add_block] at this | exact this) GW234.out)) | (show (Addr.add _ _).block ≠ _; rw [add_block]; exact Nat.ne_of_lt (Nat.lt_of_lt_of_le (by have := World.block_lt_of_cell? _ _ hw222_1; first | rwa [add_block] at this | exact this) GW234.out)) | (dsimp only; exact Nat.ne_of_lt (Nat.lt_of_lt_of_le (by have := World.block_lt_of_cell? _ _ hw222_1; first | rwa [add_block] at this | exact this) GW234.out))) _).trans (((cell_far (p := ⟨gb234, _, none⟩) (by first | exact Nat.ne_of_lt (Nat.lt_of_lt_of_le (by have := World.block_lt_of_cell? _ _ hw222_1; first | rwa [add_block] at this | exact this) GW234.out) | (rw [add_block]; exact Nat.ne_of_lt (Nat.lt_of_lt_of_le (by have := World.block_lt_of_cell? _ _ hw222_1; first | rwa [add_block] at this | exact this) GW234.out)) | (show (Addr.add _ _).block ≠ _; rw [add_block]; exact Nat.ne_of_lt (Nat.lt_of_lt_of_le (by have := World.block_lt_of_cell? _ _ hw222_1; first | rwa [add_block] at this | exact this) GW234.out)) | (dsimp only; exact Nat.ne_of_lt (Nat.lt_of_lt_of_le (by have := World.block_lt_of_cell? _ _ hw222_1; first | rwa [add_block] at this | exact this) GW234.out))) _).trans (hHeld.2.2.2.2.2.2.2.2.2.2.2.1)))))))), ((cell_far (p := ⟨gb234, _, none⟩) (by first | exact Nat.ne_of_lt (Nat.lt_of_lt_of_le (by have := World.block_lt_of_cell? _ _ hw222_2; first | rwa [add_block] at this | exact this) GW234.out) | (rw [add_block]; exact Nat.ne_of_lt (Nat.lt_of_lt_of_le (by have := World.block_lt_of_cell? _ _ hw222_2; first | rwa [add_block] at this | exact this) GW234.out)) | (show (Addr.add _ _).block ≠ _; rw [add_block]; exact Nat.ne_of_lt (Nat.lt_of_lt_of_le (by have := World.block_lt_of_cell? _ _ hw222_2; first | rwa [add_block] at this | exact this) GW234.out)) | (dsimp only; exact Nat.ne_of_lt (Nat.lt_of_lt_of_le (by have := World.block_lt_of_cell? _ _ hw222_2; first | rwa [add_block] at this | exact this) GW234.out))) _).trans (((cell_far (p := ⟨gb234, _, none⟩) (by first | exact Nat.ne_of_lt (Nat.lt_of_lt_of_le (by have := World.block_lt_of_cell? _ _ hw222_2; first | rwa [add_block] at this | exact this) GW234.out) | (rw [add_block]; exact Nat.ne_of_lt (Nat.lt_of_lt_of_le (by have := World.block_lt_of_cell? _ _ hw222_2; first | rwa [add_block] at this | exact this) GW234.out)) | (show (Addr.add _ _).block ≠ _; rw [add_block]; exact Nat.ne_of_lt (Nat.lt_of_lt_of_le (by have := World.block_lt_of_cell? _ _ hw222_2; first | rwa [add_block] at this | exact this) GW234.out)) | (dsimp only; exact Nat.ne_of_lt (Nat.lt_of_lt_of_le (by have := World.block_lt_of_cell? _ _ hw222_2; first | rwa [add_block] at this | exact this) GW234.out))) _).trans (((cell_far (p := ⟨gb234, _, none⟩) (by first | exact Nat.ne_of_lt (Nat.lt_of_lt_of_le (by have := World.block_lt_of_cell? _ _ hw222_2; first | rwa [add_block] at this | exact this) GW234.out) | (rw [add_block]; exact Nat.ne_of_lt (Nat.lt_of_lt_of_le (by have := World.block_lt_of_cell? _ _ hw222_2; first | rwa [add_block] at this | exact this) GW234.out)) | (show (Addr.add _ _).block ≠ _; rw [add_block]; exact Nat.ne_of_lt (Nat.lt_of_lt_of_le (by have := World.block_lt_of_cell? _ _ hw222_2; first | rwa [add_block] at this | exact this) GW234.out)) | (dsimp only; exact Nat.ne_of_lt (Nat.lt_of_lt_of_le (by have := World.block_lt_of_cell? _ _ hw222_2; first | rwa [add_block] at this | exact this) GW234.out))) _).trans (((cell_far (p := ⟨gb234, _, none⟩) (by first | exact Nat.ne_of_lt (Nat.lt_of_lt_of_le (by have := World.block_lt_of_cell? _ _ hw222_2; first | rwa [add_block] at this | exact this) GW234.out) | (rw [add_block]; exact Nat.ne_of_lt (Nat.lt_of_lt_of_le (by have := World.block_lt_of_cell? _ _ hw222_2; first | rwa [add_block] at this | exact this) GW234.out)) | (show (Addr.add _ _).block ≠ _; rw [add_block]; exact Nat.ne_of_lt (Nat.lt_of_lt_of_le (by have := World.block_lt_of_cell? _ _ hw222_2; first | rwa [add_block] at this | exact this) GW234.out)) | (dsimp only; exact Nat.ne_of_lt (Nat.lt_of_lt_of_le (by have := World.block_lt_of_cell? _ _ hw222_2; first | rwa [add_block] at this | exact this) GW234.out))) _).trans (hHeld.2.2.2.2.2.2.2.2.2.2.2.2.1)))))))), ((cell_far (p := ⟨gb234, _, none⟩) (by first | exact Nat.ne_of_lt (Nat.lt_of_lt_of_le (by have := World.block_lt_of_cell? _ _ hw222_3; first | rwa [add_block] at this | exact this) GW234.out) | (rw [add_block]; exact Nat.ne_of_lt (Nat.lt_of_lt_of_le (by have := World.block_lt_of_cell? _ _ hw222_3; first | rwa [add_block] at this | exact this) GW234.out)) | (show (Addr.add _ _).block ≠ _; rw [add_block]; exact Nat.ne_of_lt (Nat.lt_of_lt_of_le (by have := World.block_lt_of_cell? _ _ hw222_3; first | rwa [add_block] at this | exact this) GW234.out)) | (dsimp only; exact Nat.ne_of_lt (Nat.lt_of_lt_of_le (by have := World.block_lt_of_cell? _ _ hw222_3; first | rwa [add_block] at this | exact this) GW234.out))) _).trans (((cell_far (p := ⟨gb234, _, none⟩) (by first | exact Nat.ne_of_lt (Nat.lt_of_lt_of_le (by have := World.block_lt_of_cell? _ _ hw222_3; first | rwa [add_block] at this | exact this) GW234.out) | (rw [add_block]; exact Nat.ne_of_lt (Nat.lt_of_lt_of_le (by have := World.block_lt_of_cell? _ _ hw222_3; first | rwa [add_block] at this | exact this) GW234.out)) | (show (Addr.add _ _).block ≠ _; rw [add_block]; exact Nat.ne_of_lt (Nat.lt_of_lt_of_le (by have := World.block_lt_of_cell? _ _ hw222_3; first | rwa [add_block] at this | exact this) GW234.out)) | (dsimp only; exact Nat.ne_of_lt (Nat.lt_of_lt_of_le (by have := World.block_lt_of_cell? _ _ hw222_3; first | rwa [add_block] at this | exact this) GW234.out))) _).trans (((cell_far (p := ⟨gb234, _, none⟩) (by first | exact Nat.ne_of_lt (Nat.lt_of_lt_of_le (by have := World.block_lt_of_cell? _ _ hw222_3; first | rwa [add_block] at this | exact this) GW234.out) | (rw [add_block]; exact Nat.ne_of_lt (Nat.lt_of_lt_of_le (by have := World.block_lt_of_cell? _ _ hw222_3; first | rwa [add_block] at this | exact this) GW234.out)) | (show (Addr.add _ _).block ≠ _; rw [add_block]; exact Nat.ne_of_lt (Nat.lt_of_lt_of_le (by have := World.block_lt_of_cell? _ _ hw222_3; first | rwa [add_block] at this | exact this) GW234.out)) | (dsimp only; exact Nat.ne_of_lt (Nat.lt_of_lt_of_le (by have := World.block_lt_of_cell? _ _ hw222_3; first | rwa [add_block] at this | exact this) GW234.out))) _).trans (((cell_far (p := ⟨gb234, _, none⟩) (by first | exact Nat.ne_of_lt (Nat.lt_of_lt_of_le (by have := World.block_lt_of_cell? _ _ hw222_3; first | rwa [add_block] at this | exact this) GW234.out) | (rw [add_block]; exact Nat.ne_of_lt (Nat.lt_of_lt_of_le (by have := World.block_lt_of_cell? _ _ hw222_3; first | rwa [add_block] at this | exact this) GW234.out)) | (show (Addr.add _ _).block ≠ _; rw [add_block]; exact Nat.ne_of_lt (Nat.lt_of_lt_of_le (by have := World.block_lt_of_cell? _ _ hw222_3; first | rwa [add_block] at this | exact this) GW234.out)) | (dsimp only; exact Nat.ne_of_lt (Nat.lt_of_lt_of_le (by have := World.block_lt_of_cell? _ _ hw222_3; first | rwa [add_block] at this | exact this) GW234.out))) _).trans (hHeld.2.2.2.2.2.2.2.2.2.2.2.2.2.1)))))))), ((cell_far (p := ⟨gb234, _, none⟩) (by first | exact Nat.ne_of_lt (Nat.lt_of_lt_of_le (by have := World.block_lt_of_cell? _ _ hw222_4; first | rwa [add_block] at this | exact this) GW234.out) | (rw [add_block]; exact Nat.ne_of_lt (Nat.lt_of_lt_of_le (by have := World.block_lt_of_cell? _ _ hw222_4; first | rwa [add_block] at this | exact this) GW234.out)) | (show (Addr.add _ _).block ≠ _; rw [add_block]; exact Nat.ne_of_lt (Nat.lt_of_lt_of_le (by have := World.block_lt_of_cell? _ _ hw222_4; first | rwa [add_block] at this | exact this) GW234.out)) | (dsimp only; exact Nat.ne_of_lt (Nat.lt_of_lt_of_le (by have := World.block_lt_of_cell? _ _ hw222_4; first | rwa [add_block] at this | exact this) GW234.out))) _).trans (((cell_far (p := ⟨gb234, _, none⟩) (by first | exact Nat.ne_of_lt (Nat.lt_of_lt_of_le (by have := World.block_lt_of_cell? _ _ hw222_4; first | rwa [add_block] at this | exact this) GW234.out) | (rw [add_block]; exact Nat.ne_of_lt (Nat.lt_of_lt_of_le (by have := World.block_lt_of_cell? _ _ hw222_4; first | rwa [add_block] at this | exact this) GW234.out)) | (show (Addr.add _ _).block ≠ _; rw [add_block]; exact Nat.ne_of_lt (Nat.lt_of_lt_of_le (by have := World.block_lt_of_cell? _ _ hw222_4; first | rwa [add_block] at this | exact this) GW234.out)) | (dsimp only; exact Nat.ne_of_lt (Nat.lt_of_lt_of_le (by have := World.block_lt_of_cell? _ _ hw222_4; first | rwa [add_block] at this | exact this) GW234.out))) _).trans (((cell_far (p := ⟨gb234, _, none⟩) (by first | exact Nat.ne_of_lt (Nat.lt_of_lt_of_le (by have := World.block_lt_of_cell? _ _ hw222_4; first | rwa [add_block] at this | exact this) GW234.out) | (rw [add_block]; exact Nat.ne_of_lt (Nat.lt_of_lt_of_le (by have := World.block_lt_of_cell? _ _ hw222_4; first | rwa [add_block] at this | exact this) GW234.out)) | (show (Addr.add _ _).block ≠ _; rw [add_block]; exact Nat.ne_of_lt (Nat.lt_of_lt_of_le (by have := World.block_lt_of_cell? _ _ hw222_4; first | rwa [add_block] at this | exact this) GW234.out)) | (dsimp only; exact Nat.ne_of_lt (Nat.lt_of_lt_of_le (by have := World.block_lt_of_cell? _ _ hw222_4; first | rwa [add_block] at this | exact this) GW234.out))) _).trans (((cell_far (p := ⟨gb234, _, none⟩) (by first | exact Nat.ne_of_lt (Nat.lt_of_lt_of_le (by have := World.block_lt_of_cell? _ _ hw222_4; first | rwa [add_block] at this | exact this) GW234.out) | (rw [add_block]; exact Nat.ne_of_lt (Nat.lt_of_lt_of_le (by have := World.block_lt_of_cell? _ _ hw222_4; first | rwa [add_block] at this | exact this) GW234.out)) | (show (Addr.add _ _).block ≠ _; rw [add_block]; exact Nat.ne_of_lt (Nat.lt_of_lt_of_le (by have := World.block_lt_of_cell? _ _ hw222_4; first | rwa [add_block] at this | exact this) GW234.out)) | (dsimp only; exact Nat.ne_of_lt (Nat.lt_of_lt_of_le (by have := World.block_lt_of_cell? _ _ hw222_4; first | rwa [add_block] at this | exact this) GW234.out))) _).trans (hHeld.2.2.2.2.2.2.2.2.2.2.2.2.2.2.1)))))))), ((cell_far (p := ⟨gb234, _, none⟩) (by first | exact Nat.ne_of_lt (Nat.lt_of_lt_of_le (by have := World.block_lt_of_cell? _ _ hw222_5; first | rwa [add_block] at this | exact this) GW234.out) | (rw [add_block]; exact Nat.ne_of_lt (Nat.lt_of_lt_of_le (by have := World.block_lt_of_cell? _ _ hw222_5; first | rwa [add_block] at this | exact this) GW234.out)) | (show (Addr.add _ _).block ≠ _; rw [add_block]; exact Nat.ne_of_lt (Nat.lt_of_lt_of_le (by have := World.block_lt_of_cell? _ _ hw222_5; first | rwa [add_block] at this | exact this) GW234.out)) | (dsimp only; exact Nat.ne_of_lt (Nat.lt_of_lt_of_le (by have := World.block_lt_of_cell? _ _ hw222_5; first | rwa [add_block] at this | exact this) GW234.out))) _).trans (((cell_far (p := ⟨gb234, _, none⟩) (by first | exact Nat.ne_of_lt (Nat.lt_of_lt_of_le (by have := World.block_lt_of_cell? _ _ hw222_5; first | rwa [add_block] at this | exact this) GW234.out) | (rw [add_block]; exact Nat.ne_of_lt (Nat.lt_of_lt_of_le (by have := World.block_lt_of_cell? _ _ hw222_5; first | rwa [add_block] at this | exact this) GW234.out)) | (show (Addr.add _ _).block ≠ _; rw [add_block]; exact Nat.ne_of_lt (Nat.lt_of_lt_of_le (by have := World.block_lt_of_cell? _ _ hw222_5; first | rwa [add_block] at this | exact this) GW234.out)) | (dsimp only; exact Nat.ne_of_lt (Nat.lt_of_lt_of_le (by have := World.block_lt_of_cell? _ _ hw222_5; first | rwa [add_block] at this | exact this) GW234.out))) _).trans (((cell_far (p := ⟨gb234, _, none⟩) (by first | exact Nat.ne_of_lt (Nat.lt_of_lt_of_le (by have := World.block_lt_of_cell? _ _ hw222_5; first | rwa [add_block] at this | exact this) GW234.out) | (rw [add_block]; exact Nat.ne_of_lt (Nat.lt_of_lt_of_le (by have := World.block_lt_of_cell? _ _ hw222_5; first | rwa [add_block] at this | exact this) GW234.out)) | (show (Addr.add _ _).block ≠ _; rw [add_block]; exact Nat.ne_of_lt (Nat.lt_of_lt_of_le (by have := World.block_lt_of_cell? _ _ hw222_5; first | rwa [add_block] at this | exact this) GW234.out)) | (dsimp only; exact Nat.ne_of_lt (Nat.lt_of_lt_of_le (by have := World.block_lt_of_cell? _ _ hw222_5; first | rwa [add_block] at this | exact this) GW234.out))) _).trans (((cell_far (p := ⟨gb234, _, none⟩) (by first | exact Nat.ne_of_lt (Nat.lt_of_lt_of_le (by have := World.block_lt_of_cell? _ _ hw222_5; first | rwa [add_block] at this | exact this) GW234.out) | (rw [add_block]; exact Nat.ne_of_lt (Nat.lt_of_lt_of_le (by have := World.block_lt_of_cell? _ _ hw222_5; first | rwa [add_block] at this | exact this) GW234.out)) | (show (Addr.add _ _).block ≠ _; rw [add_block]; exact Nat.ne_of_lt (Nat.lt_of_lt_of_le (by have := World.block_lt_of_cell? _ _ hw222_5; first | rwa [add_block] at this | exact this) GW234.out)) | (dsimp only; exact Nat.ne_of_lt (Nat.lt_of_lt_of_le (by have := World.block_lt_of_cell? _ _ hw222_5; first | rwa [add_block] at this | exact this) GW234.out))) _).trans (hHeld.2.2.2.2.2.2.2.2.2.2.2.2.2.2.2))))))))⟩ (fun hHeld => ?_)
         clear hK K
         refine pure_ (i := 20) (N := some 14) (v := ?_) (a' := ?_) #[true, true, true, true, true, true, true, true, true, true, true, true, true, true, true, true, true, true, true, true, true] rfl rfl (any_of HT_.out (by kernel_rfl)) (fun _ _ _ h => h) (Or.inl ⟨by rfl, ?_⟩) ?_ ?_
         rotate_left
         ·
          intro w'
          go_simp
          with_reducible rfl
         rotate_left
         ·
          simp only [Act.put, List.setIfInBounds_toArray, List.set_cons_zero, List.set_cons_succ, i64_w, i32_w]
          rfl
         refine done_ (done_of HT_.out (by kernel_rfl)) ?_
         go_upto_region 11 with (fail)
         go_cut [89] (fun v89 wc => ∃ (kq : Nat) (x89_18 : Bool), v89 = .bool x89_18 ∧ Aside0 (clinkerlaw05_NandOnce.j2 kq l0 true x8_1 (Int.tmod (wrap64 ((rd_T37 l0 x8_1).f1)) 2) t233 x89_18 x214000_1 x214001_1 x214002_1 x214003_1 t227 t230 t231 t232 = some r) ∧ Aside0 (kq ≤ kj10) ∧ Aside0 (Kd.V k44 44 wc w.heap.size (fun k_ => k_ ≠ gb213 ∧ k_ ≠ gb220 ∧ k_ ≠ gb234) (.slice Ao22 x214000_1.length co22) x214000_1) ∧ Aside0 (Kd.V k44 44 wc w.heap.size (fun k_ => k_ ≠ gb213 ∧ k_ ≠ gb220 ∧ k_ ≠ gb234) (.slice Ao33 t227.length co33) t227) ∧ Aside0 (wc.heap[gb213]? = some (.cells #[(.slice Ao22 x214000_1.length co22), .bool x214001_1, .bool x214002_1, .int .i64 x214003_1] 27 (0, 0))) ∧ Aside0 (wc.heap[gb220]? = some (.cells #[.bool t216, .string t217, .string t218] 46 (0, 0))) ∧ Aside0 (wc.heap[gb234]? = some (.cells #[(.slice Ao33 t227.length co33), .bool t230, .bool t231, .int .i64 t232] 27 (0, 0))) ∧ Aside0 (Below w.heap.size w wc))
         case first =>
          have H := HC19.out
          clear HC19
          by_cases c38 : t219 = 0
          ·
           rw [if_pos c38] at H
           have c38b0 : (t219 == 0) = true := beq_iff_eq.mpr c38
           have c38b1 : (t219 != 0) = false := bne_eq_false_iff_eq.mpr c38
           clear c38
           (first | rw [c38b0] | (simp only [i64_w, i32_w]; rw [c38b0]) | skip)
           by_cases c39 : t216 = true
           ·
            subst c39
            have H1 : (if t230 = true then (clinkerlaw05_NandOnce.j2 kj10 l0 true x8_1 (Int.tmod (wrap64 ((rd_T37 l0 x8_1).f1)) 2) t233 (t233 != 1) x214000_1 x214001_1 x214002_1 x214003_1 t227 t230 t231 t232) else (clinkerlaw05_NandOnce.j2 kj10 l0 true x8_1 (Int.tmod (wrap64 ((rd_T37 l0 x8_1).f1)) 2) t233 true x214000_1 x214001_1 x214002_1 x214003_1 t227 t230 t231 t232)) = some r := by rw [if_pos rfl] at H; exact H
            clear H
            have H := H1
            clear H1
            by_cases c40 : t230 = true
            ·
             subst c40
             have H1 : (clinkerlaw05_NandOnce.j2 kj10 l0 true x8_1 (Int.tmod (wrap64 ((rd_T37 l0 x8_1).f1)) 2) t233 (t233 != 1) x214000_1 x214001_1 x214002_1 x214003_1 t227 true t231 t232) = some r := by rw [if_pos rfl] at H; exact H
             clear H
             have H := H1
             clear H1
             have H' := Aside0.mk H
             clear H
             have hnb41 := NB220_213.out
             have hnc41 := NB213_220.out
             have hnb42 := NB220_234.out
             have hnc42 := NB234_220.out
             have hcz43_0 : w32.cell? ⟨gb220, 0, none⟩ = some (.bool true) := (blk_cell BK220.out 0).trans rfl
             have hcz43_1 : w32.cell? ⟨gb220, 1, none⟩ = some (.string t217) := (blk_cell BK220.out 1).trans rfl
             have hcz43_2 : w32.cell? ⟨gb220, 2, none⟩ = some (.string t218) := (blk_cell BK220.out 2).trans rfl
             have hfz43_0 := blk_frozen BK220.out 0
             have hfz43_1 := blk_frozen BK220.out 1
             have hfz43_2 := blk_frozen BK220.out 2
             have hnb44 := NB234_213.out
             have hnc44 := NB213_234.out
             have hcz45_0 : w32.cell? ⟨gb234, 0, none⟩ = some (.slice none 0 0) := (blk_cell BK234.out 0).trans rfl
             have hcz45_1 : w32.cell? ⟨gb234, 1, none⟩ = some (.bool false) := (blk_cell BK234.out 1).trans rfl
             have hcz45_2 : w32.cell? ⟨gb234, 2, none⟩ = some (.bool false) := (blk_cell BK234.out 2).trans rfl
             have hcz45_3 : w32.cell? ⟨gb234, 3, none⟩ = some (.int .i64 0) := (blk_cell BK234.out 3).trans rfl
             have hfz45_0 := blk_frozen BK234.out 0
             have hfz45_1 := blk_frozen BK234.out 1
             have hfz45_2 := blk_frozen BK234.out 2
             have hfz45_3 := blk_frozen BK234.out 3
             go_wp2
             go_meet
             case rel => exact ⟨_, ((t233 != 1)), (by first | rfl | (simp; done) | (simp [*]; done)), H', ⟨by have := HK1.out; have := HJ10.out; first | omega | exact Nat.le_refl _⟩, ⟨by (with_reducible repeat (first | apply Kd.V_alloc | apply Kd.V_drewN | apply Kd.V_drew)); exact Kd.V_mono (Kd.V_far (p := ⟨gb234, 3, none⟩) (Kd.V_far (p := ⟨gb234, 2, none⟩) (Kd.V_far (p := ⟨gb234, 1, none⟩) (Kd.V_far (p := ⟨gb234, 0, none⟩) (Kd.V_mono HO_214000.out (fun k_ hk => (⟨hk, hk.2.2⟩ : _ ∧ k_ ≠ gb234))) (fun _ hk => hk.2) _) (fun _ hk => hk.2) (.bool true)) (fun _ hk => hk.2) (.bool t231)) (fun _ hk => hk.2) _) (fun _ hk => ⟨hk.1.1, ⟨hk.1.2.1, hk.1.2.2⟩⟩)⟩, ⟨by (with_reducible repeat (first | apply Kd.V_alloc | apply Kd.V_drewN | apply Kd.V_drew)); exact Kd.V_mono (Kd.V_far (p := ⟨gb234, 3, none⟩) (Kd.V_far (p := ⟨gb234, 2, none⟩) (Kd.V_far (p := ⟨gb234, 1, none⟩) (Kd.V_far (p := ⟨gb234, 0, none⟩) (Kd.V_mono HO229.out (fun k_ hk => (⟨hk, hk.2.2⟩ : _ ∧ k_ ≠ gb234))) (fun _ hk => hk.2) _) (fun _ hk => hk.2) (.bool true)) (fun _ hk => hk.2) (.bool t231)) (fun _ hk => hk.2) _) (fun _ hk => ⟨hk.1.1, ⟨hk.1.2.1, hk.1.2.2⟩⟩)⟩, ⟨by (with_reducible repeat (first | apply blk_drewN | apply blk_drew | apply blk_alloc)); refine blk_far ?_ NB213_234.out _; (with_reducible repeat (first | apply blk_drewN | apply blk_drew | apply blk_alloc)); refine blk_far ?_ NB213_234.out _; (with_reducible repeat (first | apply blk_drewN | apply blk_drew | apply blk_alloc)); refine blk_far ?_ NB213_234.out _; (with_reducible repeat (first | apply blk_drewN | apply blk_drew | apply blk_alloc)); refine blk_far ?_ NB213_234.out _; (with_reducible repeat (first | apply blk_drewN | apply blk_drew | apply blk_alloc)); exact BK213.out⟩, ⟨by (with_reducible repeat (first | apply blk_drewN | apply blk_drew | apply blk_alloc)); refine blk_far ?_ NB220_234.out _; (with_reducible repeat (first | apply blk_drewN | apply blk_drew | apply blk_alloc)); refine blk_far ?_ NB220_234.out _; (with_reducible repeat (first | apply blk_drewN | apply blk_drew | apply blk_alloc)); refine blk_far ?_ NB220_234.out _; (with_reducible repeat (first | apply blk_drewN | apply blk_drew | apply blk_alloc)); refine blk_far ?_ NB220_234.out _; (with_reducible repeat (first | apply blk_drewN | apply blk_drew | apply blk_alloc)); exact BK220.out⟩, ⟨by (with_reducible repeat (first | apply blk_drewN | apply blk_drew | apply blk_alloc)); refine blk_put (cs := #[.slice Ao33 t227.length co33, .bool true, .bool t231, .int .i64 0]) ?_ 3 _ rfl; (with_reducible repeat (first | apply blk_drewN | apply blk_drew | apply blk_alloc)); refine blk_put (cs := #[.slice Ao33 t227.length co33, .bool true, .bool false, .int .i64 0]) ?_ 2 _ rfl; (with_reducible repeat (first | apply blk_drewN | apply blk_drew | apply blk_alloc)); refine blk_put (cs := #[.slice Ao33 t227.length co33, .bool false, .bool false, .int .i64 0]) ?_ 1 _ rfl; (with_reducible repeat (first | apply blk_drewN | apply blk_drew | apply blk_alloc)); refine blk_put (cs := #[.slice none 0 0, .bool false, .bool false, .int .i64 0]) ?_ 0 _ rfl; (with_reducible repeat (first | apply blk_drewN | apply blk_drew | apply blk_alloc)); exact BK234.out⟩, ⟨by repeat (first | (with_reducible first | exact HB.out | apply below_alloc | apply pw_below_drewN | apply below_drew1 | refine below_set ?_ GE213.out | refine below_set ?_ GE220.out | refine below_set ?_ GE234.out) | exact HB.out)⟩⟩
            ·
             replace c40 := Bool.eq_false_iff.mpr c40
             subst c40
             have H1 : (clinkerlaw05_NandOnce.j2 kj10 l0 true x8_1 (Int.tmod (wrap64 ((rd_T37 l0 x8_1).f1)) 2) t233 true x214000_1 x214001_1 x214002_1 x214003_1 t227 false t231 t232) = some r := by rw [if_neg (show ¬ (false = true) by decide)] at H; exact H
             clear H
             have H := H1
             clear H1
             have H' := Aside0.mk H
             clear H
             have hnb46 := NB220_213.out
             have hnc46 := NB213_220.out
             have hnb47 := NB220_234.out
             have hnc47 := NB234_220.out
             have hcz48_0 : w32.cell? ⟨gb220, 0, none⟩ = some (.bool true) := (blk_cell BK220.out 0).trans rfl
             have hcz48_1 : w32.cell? ⟨gb220, 1, none⟩ = some (.string t217) := (blk_cell BK220.out 1).trans rfl
             have hcz48_2 : w32.cell? ⟨gb220, 2, none⟩ = some (.string t218) := (blk_cell BK220.out 2).trans rfl
             have hfz48_0 := blk_frozen BK220.out 0
             have hfz48_1 := blk_frozen BK220.out 1
             have hfz48_2 := blk_frozen BK220.out 2
             have hnb49 := NB234_213.out
             have hnc49 := NB213_234.out
             have hcz50_0 : w32.cell? ⟨gb234, 0, none⟩ = some (.slice none 0 0) := (blk_cell BK234.out 0).trans rfl
             have hcz50_1 : w32.cell? ⟨gb234, 1, none⟩ = some (.bool false) := (blk_cell BK234.out 1).trans rfl
             have hcz50_2 : w32.cell? ⟨gb234, 2, none⟩ = some (.bool false) := (blk_cell BK234.out 2).trans rfl
             have hcz50_3 : w32.cell? ⟨gb234, 3, none⟩ = some (.int .i64 0) := (blk_cell BK234.out 3).trans rfl
             have hfz50_0 := blk_frozen BK234.out 0
             have hfz50_1 := blk_frozen BK234.out 1
             have hfz50_2 := blk_frozen BK234.out 2
             have hfz50_3 := blk_frozen BK234.out 3
             go_wp2
             go_meet
             case rel => exact ⟨_, (true), (by first | rfl | (simp; done) | (simp [*]; done)), H', ⟨by have := HK1.out; have := HJ10.out; first | omega | exact Nat.le_refl _⟩, ⟨by (with_reducible repeat (first | apply Kd.V_alloc | apply Kd.V_drewN | apply Kd.V_drew)); exact Kd.V_mono (Kd.V_far (p := ⟨gb234, 3, none⟩) (Kd.V_far (p := ⟨gb234, 2, none⟩) (Kd.V_far (p := ⟨gb234, 1, none⟩) (Kd.V_far (p := ⟨gb234, 0, none⟩) (Kd.V_mono HO_214000.out (fun k_ hk => (⟨hk, hk.2.2⟩ : _ ∧ k_ ≠ gb234))) (fun _ hk => hk.2) _) (fun _ hk => hk.2) (.bool false)) (fun _ hk => hk.2) (.bool t231)) (fun _ hk => hk.2) _) (fun _ hk => ⟨hk.1.1, ⟨hk.1.2.1, hk.1.2.2⟩⟩)⟩, ⟨by (with_reducible repeat (first | apply Kd.V_alloc | apply Kd.V_drewN | apply Kd.V_drew)); exact Kd.V_mono (Kd.V_far (p := ⟨gb234, 3, none⟩) (Kd.V_far (p := ⟨gb234, 2, none⟩) (Kd.V_far (p := ⟨gb234, 1, none⟩) (Kd.V_far (p := ⟨gb234, 0, none⟩) (Kd.V_mono HO229.out (fun k_ hk => (⟨hk, hk.2.2⟩ : _ ∧ k_ ≠ gb234))) (fun _ hk => hk.2) _) (fun _ hk => hk.2) (.bool false)) (fun _ hk => hk.2) (.bool t231)) (fun _ hk => hk.2) _) (fun _ hk => ⟨hk.1.1, ⟨hk.1.2.1, hk.1.2.2⟩⟩)⟩, ⟨by (with_reducible repeat (first | apply blk_drewN | apply blk_drew | apply blk_alloc)); refine blk_far ?_ NB213_234.out _; (with_reducible repeat (first | apply blk_drewN | apply blk_drew | apply blk_alloc)); refine blk_far ?_ NB213_234.out _; (with_reducible repeat (first | apply blk_drewN | apply blk_drew | apply blk_alloc)); refine blk_far ?_ NB213_234.out _; (with_reducible repeat (first | apply blk_drewN | apply blk_drew | apply blk_alloc)); refine blk_far ?_ NB213_234.out _; (with_reducible repeat (first | apply blk_drewN | apply blk_drew | apply blk_alloc)); exact BK213.out⟩, ⟨by (with_reducible repeat (first | apply blk_drewN | apply blk_drew | apply blk_alloc)); refine blk_far ?_ NB220_234.out _; (with_reducible repeat (first | apply blk_drewN | apply blk_drew | apply blk_alloc)); refine blk_far ?_ NB220_234.out _; (with_reducible repeat (first | apply blk_drewN | apply blk_drew | apply blk_alloc)); refine blk_far ?_ NB220_234.out _; (with_reducible repeat (first | apply blk_drewN | apply blk_drew | apply blk_alloc)); refine blk_far ?_ NB220_234.out _; (with_reducible repeat (first | apply blk_drewN | apply blk_drew | apply blk_alloc)); exact BK220.out⟩, ⟨by (with_reducible repeat (first | apply blk_drewN | apply blk_drew | apply blk_alloc)); refine blk_put (cs := #[.slice Ao33 t227.length co33, .bool false, .bool t231, .int .i64 0]) ?_ 3 _ rfl; (with_reducible repeat (first | apply blk_drewN | apply blk_drew | apply blk_alloc)); refine blk_put (cs := #[.slice Ao33 t227.length co33, .bool false, .bool false, .int .i64 0]) ?_ 2 _ rfl; (with_reducible repeat (first | apply blk_drewN | apply blk_drew | apply blk_alloc)); refine blk_put (cs := #[.slice Ao33 t227.length co33, .bool false, .bool false, .int .i64 0]) ?_ 1 _ rfl; (with_reducible repeat (first | apply blk_drewN | apply blk_drew | apply blk_alloc)); refine blk_put (cs := #[.slice none 0 0, .bool false, .bool false, .int .i64 0]) ?_ 0 _ rfl; (with_reducible repeat (first | apply blk_drewN | apply blk_drew | apply blk_alloc)); exact BK234.out⟩, ⟨by repeat (first | (with_reducible first | exact HB.out | apply below_alloc | apply pw_below_drewN | apply below_drew1 | refine below_set ?_ GE213.out | refine below_set ?_ GE220.out | refine below_set ?_ GE234.out) | exact HB.out)⟩⟩
           ·
            replace c39 := Bool.eq_false_iff.mpr c39
            subst c39
            have H1 : (clinkerlaw05_NandOnce.j2 kj10 l0 true x8_1 (Int.tmod (wrap64 ((rd_T37 l0 x8_1).f1)) 2) t233 false x214000_1 x214001_1 x214002_1 x214003_1 t227 t230 t231 t232) = some r := by rw [if_neg (show ¬ (false = true) by decide)] at H; exact H
            clear H
            have H := H1
            clear H1
            have H' := Aside0.mk H
            clear H
            have hnb51 := NB220_213.out
            have hnc51 := NB213_220.out
            have hnb52 := NB220_234.out
            have hnc52 := NB234_220.out
            have hcz53_0 : w32.cell? ⟨gb220, 0, none⟩ = some (.bool false) := (blk_cell BK220.out 0).trans rfl
            have hcz53_1 : w32.cell? ⟨gb220, 1, none⟩ = some (.string t217) := (blk_cell BK220.out 1).trans rfl
            have hcz53_2 : w32.cell? ⟨gb220, 2, none⟩ = some (.string t218) := (blk_cell BK220.out 2).trans rfl
            have hfz53_0 := blk_frozen BK220.out 0
            have hfz53_1 := blk_frozen BK220.out 1
            have hfz53_2 := blk_frozen BK220.out 2
            go_wp2
            go_meet
            case rel => exact ⟨_, (false), (by first | rfl | (simp; done) | (simp [*]; done)), H', ⟨by have := HK1.out; have := HJ10.out; first | omega | exact Nat.le_refl _⟩, ⟨by (with_reducible repeat (first | apply Kd.V_alloc | apply Kd.V_drewN | apply Kd.V_drew)); exact Kd.V_mono (Kd.V_far (p := ⟨gb234, 3, none⟩) (Kd.V_far (p := ⟨gb234, 2, none⟩) (Kd.V_far (p := ⟨gb234, 1, none⟩) (Kd.V_far (p := ⟨gb234, 0, none⟩) (Kd.V_mono HO_214000.out (fun k_ hk => (⟨hk, hk.2.2⟩ : _ ∧ k_ ≠ gb234))) (fun _ hk => hk.2) _) (fun _ hk => hk.2) (.bool t230)) (fun _ hk => hk.2) (.bool t231)) (fun _ hk => hk.2) _) (fun _ hk => ⟨hk.1.1, ⟨hk.1.2.1, hk.1.2.2⟩⟩)⟩, ⟨by (with_reducible repeat (first | apply Kd.V_alloc | apply Kd.V_drewN | apply Kd.V_drew)); exact Kd.V_mono (Kd.V_far (p := ⟨gb234, 3, none⟩) (Kd.V_far (p := ⟨gb234, 2, none⟩) (Kd.V_far (p := ⟨gb234, 1, none⟩) (Kd.V_far (p := ⟨gb234, 0, none⟩) (Kd.V_mono HO229.out (fun k_ hk => (⟨hk, hk.2.2⟩ : _ ∧ k_ ≠ gb234))) (fun _ hk => hk.2) _) (fun _ hk => hk.2) (.bool t230)) (fun _ hk => hk.2) (.bool t231)) (fun _ hk => hk.2) _) (fun _ hk => ⟨hk.1.1, ⟨hk.1.2.1, hk.1.2.2⟩⟩)⟩, ⟨by (with_reducible repeat (first | apply blk_drewN | apply blk_drew | apply blk_alloc)); refine blk_far ?_ NB213_234.out _; (with_reducible repeat (first | apply blk_drewN | apply blk_drew | apply blk_alloc)); refine blk_far ?_ NB213_234.out _; (with_reducible repeat (first | apply blk_drewN | apply blk_drew | apply blk_alloc)); refine blk_far ?_ NB213_234.out _; (with_reducible repeat (first | apply blk_drewN | apply blk_drew | apply blk_alloc)); refine blk_far ?_ NB213_234.out _; (with_reducible repeat (first | apply blk_drewN | apply blk_drew | apply blk_alloc)); exact BK213.out⟩, ⟨by (with_reducible repeat (first | apply blk_drewN | apply blk_drew | apply blk_alloc)); refine blk_far ?_ NB220_234.out _; (with_reducible repeat (first | apply blk_drewN | apply blk_drew | apply blk_alloc)); refine blk_far ?_ NB220_234.out _; (with_reducible repeat (first | apply blk_drewN | apply blk_drew | apply blk_alloc)); refine blk_far ?_ NB220_234.out _; (with_reducible repeat (first | apply blk_drewN | apply blk_drew | apply blk_alloc)); refine blk_far ?_ NB220_234.out _; (with_reducible repeat (first | apply blk_drewN | apply blk_drew | apply blk_alloc)); exact BK220.out⟩, ⟨by (with_reducible repeat (first | apply blk_drewN | apply blk_drew | apply blk_alloc)); refine blk_put (cs := #[.slice Ao33 t227.length co33, .bool t230, .bool t231, .int .i64 0]) ?_ 3 _ rfl; (with_reducible repeat (first | apply blk_drewN | apply blk_drew | apply blk_alloc)); refine blk_put (cs := #[.slice Ao33 t227.length co33, .bool t230, .bool false, .int .i64 0]) ?_ 2 _ rfl; (with_reducible repeat (first | apply blk_drewN | apply blk_drew | apply blk_alloc)); refine blk_put (cs := #[.slice Ao33 t227.length co33, .bool false, .bool false, .int .i64 0]) ?_ 1 _ rfl; (with_reducible repeat (first | apply blk_drewN | apply blk_drew | apply blk_alloc)); refine blk_put (cs := #[.slice none 0 0, .bool false, .bool false, .int .i64 0]) ?_ 0 _ rfl; (with_reducible repeat (first | apply blk_drewN | apply blk_drew | apply blk_alloc)); exact BK234.out⟩, ⟨by repeat (first | (with_reducible first | exact HB.out | apply below_alloc | apply pw_below_drewN | apply below_drew1 | refine below_set ?_ GE213.out | refine below_set ?_ GE220.out | refine below_set ?_ GE234.out) | exact HB.out)⟩⟩
          ·
           rw [if_neg c38] at H
           have c38b0 : (t219 == 0) = false := beq_eq_false_iff_ne.mpr c38
           have c38b1 : (t219 != 0) = true := bne_iff_ne.mpr c38
           (first | rw [c38b0] | (simp only [i64_w, i32_w]; rw [c38b0]) | skip)
           have H' := Aside0.mk H
           clear H
           go_wp2
           go_meet
           case rel => exact ⟨_, (false), (by first | rfl | (simp; done) | (simp [*]; done)), H', ⟨by have := HK1.out; have := HJ10.out; first | omega | exact Nat.le_refl _⟩, ⟨by (with_reducible repeat (first | apply Kd.V_alloc | apply Kd.V_drewN | apply Kd.V_drew)); exact Kd.V_mono (Kd.V_far (p := ⟨gb234, 3, none⟩) (Kd.V_far (p := ⟨gb234, 2, none⟩) (Kd.V_far (p := ⟨gb234, 1, none⟩) (Kd.V_far (p := ⟨gb234, 0, none⟩) (Kd.V_mono HO_214000.out (fun k_ hk => (⟨hk, hk.2.2⟩ : _ ∧ k_ ≠ gb234))) (fun _ hk => hk.2) _) (fun _ hk => hk.2) (.bool t230)) (fun _ hk => hk.2) (.bool t231)) (fun _ hk => hk.2) _) (fun _ hk => ⟨hk.1.1, ⟨hk.1.2.1, hk.1.2.2⟩⟩)⟩, ⟨by (with_reducible repeat (first | apply Kd.V_alloc | apply Kd.V_drewN | apply Kd.V_drew)); exact Kd.V_mono (Kd.V_far (p := ⟨gb234, 3, none⟩) (Kd.V_far (p := ⟨gb234, 2, none⟩) (Kd.V_far (p := ⟨gb234, 1, none⟩) (Kd.V_far (p := ⟨gb234, 0, none⟩) (Kd.V_mono HO229.out (fun k_ hk => (⟨hk, hk.2.2⟩ : _ ∧ k_ ≠ gb234))) (fun _ hk => hk.2) _) (fun _ hk => hk.2) (.bool t230)) (fun _ hk => hk.2) (.bool t231)) (fun _ hk => hk.2) _) (fun _ hk => ⟨hk.1.1, ⟨hk.1.2.1, hk.1.2.2⟩⟩)⟩, ⟨by (with_reducible repeat (first | apply blk_drewN | apply blk_drew | apply blk_alloc)); refine blk_far ?_ NB213_234.out _; (with_reducible repeat (first | apply blk_drewN | apply blk_drew | apply blk_alloc)); refine blk_far ?_ NB213_234.out _; (with_reducible repeat (first | apply blk_drewN | apply blk_drew | apply blk_alloc)); refine blk_far ?_ NB213_234.out _; (with_reducible repeat (first | apply blk_drewN | apply blk_drew | apply blk_alloc)); refine blk_far ?_ NB213_234.out _; (with_reducible repeat (first | apply blk_drewN | apply blk_drew | apply blk_alloc)); exact BK213.out⟩, ⟨by (with_reducible repeat (first | apply blk_drewN | apply blk_drew | apply blk_alloc)); refine blk_far ?_ NB220_234.out _; (with_reducible repeat (first | apply blk_drewN | apply blk_drew | apply blk_alloc)); refine blk_far ?_ NB220_234.out _; (with_reducible repeat (first | apply blk_drewN | apply blk_drew | apply blk_alloc)); refine blk_far ?_ NB220_234.out _; (with_reducible repeat (first | apply blk_drewN | apply blk_drew | apply blk_alloc)); refine blk_far ?_ NB220_234.out _; (with_reducible repeat (first | apply blk_drewN | apply blk_drew | apply blk_alloc)); exact BK220.out⟩, ⟨by (with_reducible repeat (first | apply blk_drewN | apply blk_drew | apply blk_alloc)); refine blk_put (cs := #[.slice Ao33 t227.length co33, .bool t230, .bool t231, .int .i64 0]) ?_ 3 _ rfl; (with_reducible repeat (first | apply blk_drewN | apply blk_drew | apply blk_alloc)); refine blk_put (cs := #[.slice Ao33 t227.length co33, .bool t230, .bool false, .int .i64 0]) ?_ 2 _ rfl; (with_reducible repeat (first | apply blk_drewN | apply blk_drew | apply blk_alloc)); refine blk_put (cs := #[.slice Ao33 t227.length co33, .bool false, .bool false, .int .i64 0]) ?_ 1 _ rfl; (with_reducible repeat (first | apply blk_drewN | apply blk_drew | apply blk_alloc)); refine blk_put (cs := #[.slice none 0 0, .bool false, .bool false, .int .i64 0]) ?_ 0 _ rfl; (with_reducible repeat (first | apply blk_drewN | apply blk_drew | apply blk_alloc)); exact BK234.out⟩, ⟨by repeat (first | (with_reducible first | exact HB.out | apply below_alloc | apply pw_below_drewN | apply below_drew1 | refine below_set ?_ GE213.out | refine below_set ?_ GE220.out | refine below_set ?_ GE234.out) | exact HB.out)⟩⟩
         case rest =>
          clear HC19
          try clear c1
          try clear c2
          try clear p2
          try clear c3
          try clear c4
          try clear c5
          try clear p6
          try clear c19
          try clear c21
          try clear c38
          try clear c38b0
          try clear c38b1
          try clear c39
          try clear c40
          try clear c41
          try clear c42
          try clear c44
          try clear c46
          try clear c47
          try clear c49
          try clear c51
          try clear c52
          try clear hcz43_0
          try clear hcz43_1
          try clear hcz43_2
          try clear hcz45_0
          try clear hcz45_1
          try clear hcz45_2
          try clear hcz45_3
          try clear hcz48_0
          try clear hcz48_1
          try clear hcz48_2
          try clear hcz50_0
          try clear hcz50_1
          try clear hcz50_2
          try clear hcz50_3
          try clear hcz53_0
          try clear hcz53_1
          try clear hcz53_2
          try clear hfz43_0
          try clear hfz43_1
          try clear hfz43_2
          try clear hfz45_0
          try clear hfz45_1
          try clear hfz45_2
          try clear hfz45_3
          try clear hfz48_0
          try clear hfz48_1
          try clear hfz48_2
          try clear hfz50_0
          try clear hfz50_1
          try clear hfz50_2
          try clear hfz50_3
          try clear hfz53_0
          try clear hfz53_1
          try clear hfz53_2
          obtain ⟨kq, x89_18, rfl, HA, HJ18, HO_214000, HO_235000, BK213, BK220, BK234, HB⟩ := hcut
          cases kq with
          | zero => exact absurd HA.out (by simp [clinkerlaw05_NandOnce.j2])
          | succ kj18 =>
           have H := HA.out
           clear HA
           simp only [clinkerlaw05_NandOnce.j2] at H
           by_cases c54 : x89_18 = true
           ·
            subst c54
            have H1 : (some false) = some r := by rw [if_pos rfl] at H; exact H
            clear H
            have H := H1
            clear H1
            exact absurd (H.trans (congrArg some hrt.out)) (by simp)
           ·
            replace c54 := Bool.eq_false_iff.mpr c54
            subst c54
            have H1 : (if t233 = 1 then (if 0 ≤ x8_1 then (if x8_1 < (l0.length : Int) then (if (Int.tmod ((rd_T37 l0 x8_1).f0) 2) = 0 then ((nand_Erase.f x214000_1 x214001_1 x214002_1 x214003_1 (Int.tmod (wrap64 ((rd_T37 l0 x8_1).f1)) 2) 0 (⟨#[]⟩ : ByteArray) (⟨#[]⟩ : ByteArray) 0).bind fun bt236 => ((nand_On.f bt236.1 bt236.2.1 bt236.2.2.1 bt236.2.2.2.1).bind fun bt243 => (clinkerlaw05_NandOnce.l0 kj18 l0 true (wrap64 (x8_1 + 1)) bt243.1 false bt243.2.2.1 bt243.2.2.2))) else ((nand_On.f x214000_1 x214001_1 x214002_1 x214003_1).bind fun bt249 => (clinkerlaw05_NandOnce.l0 kj18 l0 true (wrap64 (x8_1 + 1)) bt249.1 false bt249.2.2.1 bt249.2.2.2))) else (none)) else (none)) else ((nand_On.f t227 t230 t231 t232).bind fun bt255 => (clinkerlaw05_NandOnce.l0 kj18 l0 true (wrap64 (x8_1 + 1)) bt255.1 false bt255.2.2.1 bt255.2.2.2))) = some r := by rw [if_neg (show ¬ (false = true) by decide)] at H; exact H
            clear H
            have H := H1
            clear H1
            by_cases c55 : t233 = 1
            ·
             rw [if_pos c55] at H
             have c55b0 : (t233 == 1) = true := beq_iff_eq.mpr c55
             have c55b1 : (t233 != 1) = false := bne_eq_false_iff_eq.mpr c55
             clear c55
             by_cases c56 : 0 ≤ x8_1
             ·
              rw [if_pos c56] at H
              have c56b0 : decide (0 ≤ x8_1) = true := decide_eq_true c56
              clear c56
              by_cases c57 : x8_1 < (l0.length : Int)
              ·
               rw [if_pos c57] at H
               have c57b0 : decide (x8_1 < (l0.length : Int)) = true := decide_eq_true c57
               clear c57
               by_cases c58 : (Int.tmod ((rd_T37 l0 x8_1).f0) 2) = 0
               ·
                rw [if_pos c58] at H
                have c58b0 : ((Int.tmod ((rd_T37 l0 x8_1).f0) 2) == 0) = true := beq_iff_eq.mpr c58
                have c58b1 : ((Int.tmod ((rd_T37 l0 x8_1).f0) 2) != 0) = false := bne_eq_false_iff_eq.mpr c58
                clear c58
                replace H := Option.bind_eq_some_iff.mp H
                obtain ⟨⟨t236, t239, t240, t241, t242⟩, A590, H⟩ := H
                replace H : ((nand_On.f t236 t239 t240 t241).bind fun bt243 => (clinkerlaw05_NandOnce.l0 kj18 l0 true (wrap64 (x8_1 + 1)) bt243.1 false bt243.2.2.1 bt243.2.2.2)) = some r := H
                have A59 := Aside0.mk A590
                clear A590
                replace H := Option.bind_eq_some_iff.mp H
                obtain ⟨⟨t243, t246, t247, t248⟩, A600, H⟩ := H
                replace H : (clinkerlaw05_NandOnce.l0 kj18 l0 true (wrap64 (x8_1 + 1)) t243 false t247 t248) = some r := H
                have A60 := Aside0.mk A600
                clear A600
                have H' := Aside0.mk H
                clear H
                have hnb61 := NB213_220.out
                have hnc61 := NB220_213.out
                have hnb62 := NB213_234.out
                have hnc62 := NB234_213.out
                have hcz63_0 : wc.cell? ⟨gb213, 0, none⟩ = some (.slice Ao22 x214000_1.length co22) := (blk_cell BK213.out 0).trans rfl
                have hcz63_1 : wc.cell? ⟨gb213, 1, none⟩ = some (.bool x214001_1) := (blk_cell BK213.out 1).trans rfl
                have hcz63_2 : wc.cell? ⟨gb213, 2, none⟩ = some (.bool x214002_1) := (blk_cell BK213.out 2).trans rfl
                have hcz63_3 : wc.cell? ⟨gb213, 3, none⟩ = some (.int .i64 x214003_1) := (blk_cell BK213.out 3).trans rfl
                have hfz63_0 := blk_frozen BK213.out 0
                have hfz63_1 := blk_frozen BK213.out 1
                have hfz63_2 := blk_frozen BK213.out 2
                have hfz63_3 := blk_frozen BK213.out 3
                have hnb64 := NB234_220.out
                have hnc64 := NB220_234.out
                have hcz65_0 : wc.cell? ⟨gb234, 0, none⟩ = some (.slice Ao33 t227.length co33) := (blk_cell BK234.out 0).trans rfl
                have hcz65_1 : wc.cell? ⟨gb234, 1, none⟩ = some (.bool t230) := (blk_cell BK234.out 1).trans rfl
                have hcz65_2 : wc.cell? ⟨gb234, 2, none⟩ = some (.bool t231) := (blk_cell BK234.out 2).trans rfl
                have hcz65_3 : wc.cell? ⟨gb234, 3, none⟩ = some (.int .i64 t232) := (blk_cell BK234.out 3).trans rfl
                have hfz65_0 := blk_frozen BK234.out 0
                have hfz65_1 := blk_frozen BK234.out 1
                have hfz65_2 := blk_frozen BK234.out 2
                have hfz65_3 := blk_frozen BK234.out 3
                go_wp2_with (first | ((with_reducible refine gate_store (t := 27) (p := 13) rfl ?_); refine store_event (t := 27) (p := 13) (v := ?vo_w66) (w1 := ((((wc.setCell ⟨gb234, 0, none⟩ (.slice Ao22 x214000_1.length co22)).setCell ⟨gb234, 1, none⟩ (.bool x214001_1)).setCell ⟨gb234, 2, none⟩ (.bool x214002_1)).setCell ⟨gb234, 3, none⟩ (.int .i64 x214003_1))) ?hg ?ho ?hn ?hr ?_; (case ho => rfl); (case hg => rfl); (case hn => rfl); (case hr => first | (go_simp; done) | (go_simp; rfl)); intro w66 hw; have n0_ : Aside0 (Kd.V k44 44 w66 w.heap.size (fun k_ => k_ ≠ gb213 ∧ k_ ≠ gb220 ∧ k_ ≠ gb234) (.slice Ao22 x214000_1.length co22) x214000_1) := ⟨(by rw [hw]; exact (by (with_reducible repeat (first | apply Kd.V_alloc | apply Kd.V_drewN | apply Kd.V_drew)); exact Kd.V_mono (Kd.V_far (p := ⟨gb234, 3, none⟩) (Kd.V_far (p := ⟨gb234, 2, none⟩) (Kd.V_far (p := ⟨gb234, 1, none⟩) (Kd.V_far (p := ⟨gb234, 0, none⟩) (Kd.V_mono HO_214000.out (fun k_ hk => (⟨hk, hk.2.2⟩ : _ ∧ k_ ≠ gb234))) (fun _ hk => hk.2) _) (fun _ hk => hk.2) (.bool x214001_1)) (fun _ hk => hk.2) (.bool x214002_1)) (fun _ hk => hk.2) _) (fun _ hk => ⟨hk.1.1, ⟨hk.1.2.1, hk.1.2.2⟩⟩)))⟩; have n1_ : Aside0 (Kd.V k44 44 w66 w.heap.size (fun k_ => k_ ≠ gb213 ∧ k_ ≠ gb220 ∧ k_ ≠ gb234) (.slice Ao33 t227.length co33) t227) := ⟨(by rw [hw]; exact (by (with_reducible repeat (first | apply Kd.V_alloc | apply Kd.V_drewN | apply Kd.V_drew)); exact Kd.V_mono (Kd.V_far (p := ⟨gb234, 3, none⟩) (Kd.V_far (p := ⟨gb234, 2, none⟩) (Kd.V_far (p := ⟨gb234, 1, none⟩) (Kd.V_far (p := ⟨gb234, 0, none⟩) (Kd.V_mono HO_235000.out (fun k_ hk => (⟨hk, hk.2.2⟩ : _ ∧ k_ ≠ gb234))) (fun _ hk => hk.2) _) (fun _ hk => hk.2) (.bool x214001_1)) (fun _ hk => hk.2) (.bool x214002_1)) (fun _ hk => hk.2) _) (fun _ hk => ⟨hk.1.1, ⟨hk.1.2.1, hk.1.2.2⟩⟩)))⟩; have n2_ : Aside0 (w66.heap[gb213]? = some (.cells #[.slice Ao22 x214000_1.length co22, .bool x214001_1, .bool x214002_1, .int .i64 x214003_1] 27 (0, 0))) := ⟨(by rw [hw]; exact (by (with_reducible repeat (first | apply blk_drewN | apply blk_drew | apply blk_alloc)); refine blk_far ?_ NB213_234.out _; (with_reducible repeat (first | apply blk_drewN | apply blk_drew | apply blk_alloc)); refine blk_far ?_ NB213_234.out _; (with_reducible repeat (first | apply blk_drewN | apply blk_drew | apply blk_alloc)); refine blk_far ?_ NB213_234.out _; (with_reducible repeat (first | apply blk_drewN | apply blk_drew | apply blk_alloc)); refine blk_far ?_ NB213_234.out _; (with_reducible repeat (first | apply blk_drewN | apply blk_drew | apply blk_alloc)); exact BK213.out))⟩; have n3_ : Aside0 (w66.heap[gb220]? = some (.cells #[.bool t216, .string t217, .string t218] 46 (0, 0))) := ⟨(by rw [hw]; exact (by (with_reducible repeat (first | apply blk_drewN | apply blk_drew | apply blk_alloc)); refine blk_far ?_ NB220_234.out _; (with_reducible repeat (first | apply blk_drewN | apply blk_drew | apply blk_alloc)); refine blk_far ?_ NB220_234.out _; (with_reducible repeat (first | apply blk_drewN | apply blk_drew | apply blk_alloc)); refine blk_far ?_ NB220_234.out _; (with_reducible repeat (first | apply blk_drewN | apply blk_drew | apply blk_alloc)); refine blk_far ?_ NB220_234.out _; (with_reducible repeat (first | apply blk_drewN | apply blk_drew | apply blk_alloc)); exact BK220.out))⟩; have n4_ : Aside0 (w66.heap[gb234]? = some (.cells #[.slice Ao22 x214000_1.length co22, .bool x214001_1, .bool x214002_1, .int .i64 x214003_1] 27 (0, 0))) := ⟨(by rw [hw]; exact (by (with_reducible repeat (first | apply blk_drewN | apply blk_drew | apply blk_alloc)); refine blk_put (cs := #[.slice Ao22 x214000_1.length co22, .bool x214001_1, .bool x214002_1, .int .i64 t232]) ?_ 3 _ rfl; (with_reducible repeat (first | apply blk_drewN | apply blk_drew | apply blk_alloc)); refine blk_put (cs := #[.slice Ao22 x214000_1.length co22, .bool x214001_1, .bool t231, .int .i64 t232]) ?_ 2 _ rfl; (with_reducible repeat (first | apply blk_drewN | apply blk_drew | apply blk_alloc)); refine blk_put (cs := #[.slice Ao22 x214000_1.length co22, .bool t230, .bool t231, .int .i64 t232]) ?_ 1 _ rfl; (with_reducible repeat (first | apply blk_drewN | apply blk_drew | apply blk_alloc)); refine blk_put (cs := #[.slice Ao33 t227.length co33, .bool t230, .bool t231, .int .i64 t232]) ?_ 0 _ rfl; (with_reducible repeat (first | apply blk_drewN | apply blk_drew | apply blk_alloc)); exact BK234.out))⟩; have n5_ : Aside0 (Below w.heap.size w w66) := ⟨(by rw [hw]; exact (by repeat (first | (with_reducible first | exact HB.out | apply below_alloc | apply pw_below_drewN | apply below_drew1 | refine below_set ?_ GE213.out | refine below_set ?_ GE220.out | refine below_set ?_ GE234.out) | exact HB.out)))⟩; clear hw; clear HO_214000; clear HO_235000; clear BK213; clear BK220; clear BK234; clear HB; have HO_214000 := n0_; have HO_235000 := n1_; have BK213 := n2_; have BK220 := n3_; have BK234 := n4_; have HB := n5_; clear n0_ n1_ n2_ n3_ n4_ n5_; have p235 : 0 ≤ (x8_1 : Int) := of_decide_eq_true (by first | (with_reducible assumption) | assumption); have q235 : x8_1 < (l0.length : Int) := of_decide_eq_true (by first | (with_reducible assumption) | assumption); obtain ⟨ad235, e235, hx235_0, hx235_1, hx235_2, hx235_3, hx235_4, hx235_5⟩ := at_T37 HR0.out x8_1 p235 q235; obtain rfl : ad214 = ad235 := (by injection e235); replace hx235_0 := (HB.out.cell (World.block_lt_of_cell? w _ hx235_0)).trans hx235_0; replace hx235_1 := (HB.out.cell (World.block_lt_of_cell? w _ hx235_1)).trans hx235_1; replace hx235_2 := (HB.out.cell (World.block_lt_of_cell? w _ hx235_2)).trans hx235_2; replace hx235_3 := (HB.out.cell (World.block_lt_of_cell? w _ hx235_3)).trans hx235_3; replace hx235_4 := (HB.out.cell (World.block_lt_of_cell? w _ hx235_4)).trans hx235_4; replace hx235_5 := (HB.out.cell (World.block_lt_of_cell? w _ hx235_5)).trans hx235_5; replace p235 := eq_true p235; replace q235 := eq_true q235; have hcz67_0 : w66.cell? ⟨gb213, 0, none⟩ = some (.slice Ao22 x214000_1.length co22) := (blk_cell BK213.out 0).trans rfl; have hcz67_1 : w66.cell? ⟨gb213, 1, none⟩ = some (.bool x214001_1) := (blk_cell BK213.out 1).trans rfl; have hcz67_2 : w66.cell? ⟨gb213, 2, none⟩ = some (.bool x214002_1) := (blk_cell BK213.out 2).trans rfl; have hcz67_3 : w66.cell? ⟨gb213, 3, none⟩ = some (.int .i64 x214003_1) := (blk_cell BK213.out 3).trans rfl; have hfz67_0 := blk_frozen BK213.out 0; have hfz67_1 := blk_frozen BK213.out 1; have hfz67_2 := blk_frozen BK213.out 2; have hfz67_3 := blk_frozen BK213.out 3) | ((with_reducible refine gate_callee (f := 17) rfl ?_); refine goesL_ (some 104) rfl rfl Try.func17 (by kernel_rfl) rfl #[.agg #[.slice Ao22 x214000_1.length co22, .bool x214001_1, .bool x214002_1, .int .i64 x214003_1], .int .i64 (Int.tmod (wrap64 ((rd_T37 l0 x8_1).f1)) 2), .agg #[.int .i64 0, .string (⟨#[]⟩ : ByteArray), .string (⟨#[]⟩ : ByteArray), .int .i64 0]] rfl (by (try simp only [List.map_toArray, List.map_cons, List.map_nil]); first | done | rfl | (simp only [List.length_drop, List.length_take]; rfl)) ?_; (with_reducible refine (nand_Erase.calls (fun k_ => (k_ ≠ gb213 ∧ (k_ ≠ gb220 ∧ k_ ≠ gb234))) _ _ x214000_1 x214001_1 x214002_1 x214003_1 (Int.tmod (wrap64 ((rd_T37 l0 x8_1).f1)) 2) 0 (⟨#[]⟩ : ByteArray) (⟨#[]⟩ : ByteArray) 0 t236 t239 t240 t241 t242 _ ?side1 A59.out).mono ?_); (case side1 => exact HO_214000.out); rintro e w68 ⟨v237, rfl, ho0, hb⟩; refine ⟨_, rfl, ?_⟩; have n0_ := Aside0.mk (Kd.V_below (by (with_reducible repeat (first | apply Kd.V_alloc | apply Kd.V_drewN | apply Kd.V_drew)); exact HO_214000.out) hb); have n1_ := Aside0.mk (Kd.V_below (by (with_reducible repeat (first | apply Kd.V_alloc | apply Kd.V_drewN | apply Kd.V_drew)); exact HO_235000.out) hb); have n2_ := Aside0.mk (Kd.V_lower (Kd.V_mono (ok' := fun k_ => k_ ≠ gb213 ∧ k_ ≠ gb220 ∧ k_ ≠ gb234) ho0 (fun k_ hk_ => ⟨Or.elim hk_ (fun hs_ => hs_.1) (fun hn_ => (Kd.freshB (g := gb213) (o := .cells #[.slice Ao22 x214000_1.length co22, .bool x214001_1, .bool x214002_1, .int .i64 x214003_1] 27 (0, 0)) (by (with_reducible repeat (first | apply blk_drewN | apply blk_drew | apply blk_alloc)); exact BK213.out) k_ hn_)), Or.elim hk_ (fun hs_ => hs_.2.1) (fun hn_ => (Kd.freshB (g := gb220) (o := .cells #[.bool t216, .string t217, .string t218] 46 (0, 0)) (by (with_reducible repeat (first | apply blk_drewN | apply blk_drew | apply blk_alloc)); exact BK220.out) k_ hn_)), Or.elim hk_ (fun hs_ => hs_.2.2) (fun hn_ => (Kd.freshB (g := gb234) (o := .cells #[.slice Ao22 x214000_1.length co22, .bool x214001_1, .bool x214002_1, .int .i64 x214003_1] 27 (0, 0)) (by (with_reducible repeat (first | apply blk_drewN | apply blk_drew | apply blk_alloc)); exact BK234.out) k_ hn_))⟩)) (below_size (by repeat (first | (with_reducible first | exact HB.out | apply below_alloc | apply pw_below_drewN | apply below_drew1 | refine below_set ?_ GE213.out | refine below_set ?_ GE220.out | refine below_set ?_ GE234.out) | exact HB.out)))); have n3_ := Aside0.mk (blk_below (g := gb213) (o := .cells #[.slice Ao22 x214000_1.length co22, .bool x214001_1, .bool x214002_1, .int .i64 x214003_1] 27 (0, 0)) (by (with_reducible repeat (first | apply blk_drewN | apply blk_drew | apply blk_alloc)); exact BK213.out) hb); have n4_ := Aside0.mk (blk_below (g := gb220) (o := .cells #[.bool t216, .string t217, .string t218] 46 (0, 0)) (by (with_reducible repeat (first | apply blk_drewN | apply blk_drew | apply blk_alloc)); exact BK220.out) hb); have n5_ := Aside0.mk (blk_below (g := gb234) (o := .cells #[.slice Ao22 x214000_1.length co22, .bool x214001_1, .bool x214002_1, .int .i64 x214003_1] 27 (0, 0)) (by (with_reducible repeat (first | apply blk_drewN | apply blk_drew | apply blk_alloc)); exact BK234.out) hb); have n6_ := Aside0.mk (below_step (by repeat (first | (with_reducible first | exact HB.out | apply below_alloc | apply pw_below_drewN | apply below_drew1 | refine below_set ?_ GE213.out | refine below_set ?_ GE220.out | refine below_set ?_ GE234.out) | exact HB.out)) hb); clear HO_214000; clear HO_235000; clear BK213; clear BK220; clear BK234; clear HB; have HO_214000 := n0_; have HO_235000 := n1_; have HO238 := n2_; have BK213 := n3_; have BK220 := n4_; have BK234 := n5_; have HB := n6_; clear n0_ n1_ n2_ n3_ n4_ n5_ n6_; (try clear hb); (try clear hb2); (try clear hk); (try clear hi); (try clear ho0); obtain ⟨Ao69, co69, eo69⟩ := Kd.V_slice HO238.out; subst eo69; have hcz70_0 : w68.cell? ⟨gb234, 0, none⟩ = some (.slice Ao22 x214000_1.length co22) := (blk_cell BK234.out 0).trans rfl; have hcz70_1 : w68.cell? ⟨gb234, 1, none⟩ = some (.bool x214001_1) := (blk_cell BK234.out 1).trans rfl; have hcz70_2 : w68.cell? ⟨gb234, 2, none⟩ = some (.bool x214002_1) := (blk_cell BK234.out 2).trans rfl; have hcz70_3 : w68.cell? ⟨gb234, 3, none⟩ = some (.int .i64 x214003_1) := (blk_cell BK234.out 3).trans rfl; have hfz70_0 := blk_frozen BK234.out 0; have hfz70_1 := blk_frozen BK234.out 1; have hfz70_2 := blk_frozen BK234.out 2; have hfz70_3 := blk_frozen BK234.out 3) | ((with_reducible refine gate_store (t := 27) (p := 13) rfl ?_); refine store_event (t := 27) (p := 13) (v := ?vo_w71) (w1 := ((((w68.setCell ⟨gb234, 0, none⟩ (.slice Ao69 t236.length co69)).setCell ⟨gb234, 1, none⟩ (.bool t239)).setCell ⟨gb234, 2, none⟩ (.bool t240)).setCell ⟨gb234, 3, none⟩ (.int .i64 t241))) ?hg ?ho ?hn ?hr ?_; (case ho => rfl); (case hg => rfl); (case hn => rfl); (case hr => first | (go_simp; done) | (go_simp; rfl)); intro w71 hw; have n0_ : Aside0 (Kd.V k44 44 w71 w.heap.size (fun k_ => k_ ≠ gb213 ∧ k_ ≠ gb220 ∧ k_ ≠ gb234) (.slice Ao22 x214000_1.length co22) x214000_1) := ⟨(by rw [hw]; exact (by (with_reducible repeat (first | apply Kd.V_alloc | apply Kd.V_drewN | apply Kd.V_drew)); exact Kd.V_mono (Kd.V_far (p := ⟨gb234, 3, none⟩) (Kd.V_far (p := ⟨gb234, 2, none⟩) (Kd.V_far (p := ⟨gb234, 1, none⟩) (Kd.V_far (p := ⟨gb234, 0, none⟩) (Kd.V_mono HO_214000.out (fun k_ hk => (⟨hk, hk.2.2⟩ : _ ∧ k_ ≠ gb234))) (fun _ hk => hk.2) _) (fun _ hk => hk.2) (.bool t239)) (fun _ hk => hk.2) (.bool t240)) (fun _ hk => hk.2) _) (fun _ hk => ⟨hk.1.1, ⟨hk.1.2.1, hk.1.2.2⟩⟩)))⟩; have n1_ : Aside0 (Kd.V k44 44 w71 w.heap.size (fun k_ => k_ ≠ gb213 ∧ k_ ≠ gb220 ∧ k_ ≠ gb234) (.slice Ao33 t227.length co33) t227) := ⟨(by rw [hw]; exact (by (with_reducible repeat (first | apply Kd.V_alloc | apply Kd.V_drewN | apply Kd.V_drew)); exact Kd.V_mono (Kd.V_far (p := ⟨gb234, 3, none⟩) (Kd.V_far (p := ⟨gb234, 2, none⟩) (Kd.V_far (p := ⟨gb234, 1, none⟩) (Kd.V_far (p := ⟨gb234, 0, none⟩) (Kd.V_mono HO_235000.out (fun k_ hk => (⟨hk, hk.2.2⟩ : _ ∧ k_ ≠ gb234))) (fun _ hk => hk.2) _) (fun _ hk => hk.2) (.bool t239)) (fun _ hk => hk.2) (.bool t240)) (fun _ hk => hk.2) _) (fun _ hk => ⟨hk.1.1, ⟨hk.1.2.1, hk.1.2.2⟩⟩)))⟩; have n2_ : Aside0 (Kd.V k44 44 w71 w.heap.size (fun k_ => k_ ≠ gb213 ∧ k_ ≠ gb220 ∧ k_ ≠ gb234) (.slice Ao69 t236.length co69) t236) := ⟨(by rw [hw]; exact (by (with_reducible repeat (first | apply Kd.V_alloc | apply Kd.V_drewN | apply Kd.V_drew)); exact Kd.V_mono (Kd.V_far (p := ⟨gb234, 3, none⟩) (Kd.V_far (p := ⟨gb234, 2, none⟩) (Kd.V_far (p := ⟨gb234, 1, none⟩) (Kd.V_far (p := ⟨gb234, 0, none⟩) (Kd.V_mono HO238.out (fun k_ hk => (⟨hk, hk.2.2⟩ : _ ∧ k_ ≠ gb234))) (fun _ hk => hk.2) _) (fun _ hk => hk.2) (.bool t239)) (fun _ hk => hk.2) (.bool t240)) (fun _ hk => hk.2) _) (fun _ hk => ⟨hk.1.1, ⟨hk.1.2.1, hk.1.2.2⟩⟩)))⟩; have n3_ : Aside0 (w71.heap[gb213]? = some (.cells #[.slice Ao22 x214000_1.length co22, .bool x214001_1, .bool x214002_1, .int .i64 x214003_1] 27 (0, 0))) := ⟨(by rw [hw]; exact (by (with_reducible repeat (first | apply blk_drewN | apply blk_drew | apply blk_alloc)); refine blk_far ?_ NB213_234.out _; (with_reducible repeat (first | apply blk_drewN | apply blk_drew | apply blk_alloc)); refine blk_far ?_ NB213_234.out _; (with_reducible repeat (first | apply blk_drewN | apply blk_drew | apply blk_alloc)); refine blk_far ?_ NB213_234.out _; (with_reducible repeat (first | apply blk_drewN | apply blk_drew | apply blk_alloc)); refine blk_far ?_ NB213_234.out _; (with_reducible repeat (first | apply blk_drewN | apply blk_drew | apply blk_alloc)); exact BK213.out))⟩; have n4_ : Aside0 (w71.heap[gb220]? = some (.cells #[.bool t216, .string t217, .string t218] 46 (0, 0))) := ⟨(by rw [hw]; exact (by (with_reducible repeat (first | apply blk_drewN | apply blk_drew | apply blk_alloc)); refine blk_far ?_ NB220_234.out _; (with_reducible repeat (first | apply blk_drewN | apply blk_drew | apply blk_alloc)); refine blk_far ?_ NB220_234.out _; (with_reducible repeat (first | apply blk_drewN | apply blk_drew | apply blk_alloc)); refine blk_far ?_ NB220_234.out _; (with_reducible repeat (first | apply blk_drewN | apply blk_drew | apply blk_alloc)); refine blk_far ?_ NB220_234.out _; (with_reducible repeat (first | apply blk_drewN | apply blk_drew | apply blk_alloc)); exact BK220.out))⟩; have n5_ : Aside0 (w71.heap[gb234]? = some (.cells #[.slice Ao69 t236.length co69, .bool t239, .bool t240, .int .i64 t241] 27 (0, 0))) := ⟨(by rw [hw]; exact (by (with_reducible repeat (first | apply blk_drewN | apply blk_drew | apply blk_alloc)); refine blk_put (cs := #[.slice Ao69 t236.length co69, .bool t239, .bool t240, .int .i64 x214003_1]) ?_ 3 _ rfl; (with_reducible repeat (first | apply blk_drewN | apply blk_drew | apply blk_alloc)); refine blk_put (cs := #[.slice Ao69 t236.length co69, .bool t239, .bool x214002_1, .int .i64 x214003_1]) ?_ 2 _ rfl; (with_reducible repeat (first | apply blk_drewN | apply blk_drew | apply blk_alloc)); refine blk_put (cs := #[.slice Ao69 t236.length co69, .bool x214001_1, .bool x214002_1, .int .i64 x214003_1]) ?_ 1 _ rfl; (with_reducible repeat (first | apply blk_drewN | apply blk_drew | apply blk_alloc)); refine blk_put (cs := #[.slice Ao22 x214000_1.length co22, .bool x214001_1, .bool x214002_1, .int .i64 x214003_1]) ?_ 0 _ rfl; (with_reducible repeat (first | apply blk_drewN | apply blk_drew | apply blk_alloc)); exact BK234.out))⟩; have n6_ : Aside0 (Below w.heap.size w w71) := ⟨(by rw [hw]; exact (by repeat (first | (with_reducible first | exact HB.out | apply below_alloc | apply pw_below_drewN | apply below_drew1 | refine below_set ?_ GE213.out | refine below_set ?_ GE220.out | refine below_set ?_ GE234.out) | exact HB.out)))⟩; clear hw; clear HO_214000; clear HO_235000; clear HO238; clear BK213; clear BK220; clear BK234; clear HB; have HO_214000 := n0_; have HO_235000 := n1_; have HO238 := n2_; have BK213 := n3_; have BK220 := n4_; have BK234 := n5_; have HB := n6_; clear n0_ n1_ n2_ n3_ n4_ n5_ n6_; have hcz72_0 : w71.cell? ⟨gb234, 0, none⟩ = some (.slice Ao69 t236.length co69) := (blk_cell BK234.out 0).trans rfl; have hcz72_1 : w71.cell? ⟨gb234, 1, none⟩ = some (.bool t239) := (blk_cell BK234.out 1).trans rfl; have hcz72_2 : w71.cell? ⟨gb234, 2, none⟩ = some (.bool t240) := (blk_cell BK234.out 2).trans rfl; have hcz72_3 : w71.cell? ⟨gb234, 3, none⟩ = some (.int .i64 t241) := (blk_cell BK234.out 3).trans rfl; have hfz72_0 := blk_frozen BK234.out 0; have hfz72_1 := blk_frozen BK234.out 1; have hfz72_2 := blk_frozen BK234.out 2; have hfz72_3 := blk_frozen BK234.out 3) | ((with_reducible refine gate_callee (f := 22) rfl ?_); refine goesL_ (some 108) rfl rfl Try.func22 (by kernel_rfl) rfl #[.agg #[.slice Ao69 t236.length co69, .bool t239, .bool t240, .int .i64 t241]] rfl (by (try simp only [List.map_toArray, List.map_cons, List.map_nil]); first | done | rfl | (simp only [List.length_drop, List.length_take]; rfl)) ?_; (with_reducible refine (nand_On.calls (fun k_ => (k_ ≠ gb213 ∧ (k_ ≠ gb220 ∧ k_ ≠ gb234))) _ _ t236 t239 t240 t241 t243 t246 t247 t248 _ ?side1 A60.out).mono ?_); (case side1 => exact HO238.out); rintro e w73 ⟨v244, rfl, ho0, hb⟩; refine ⟨_, rfl, ?_⟩; have n0_ := Aside0.mk (Kd.V_below (by (with_reducible repeat (first | apply Kd.V_alloc | apply Kd.V_drewN | apply Kd.V_drew)); exact HO_214000.out) hb); have n1_ := Aside0.mk (Kd.V_below (by (with_reducible repeat (first | apply Kd.V_alloc | apply Kd.V_drewN | apply Kd.V_drew)); exact HO_235000.out) hb); have n2_ := Aside0.mk (Kd.V_below (by (with_reducible repeat (first | apply Kd.V_alloc | apply Kd.V_drewN | apply Kd.V_drew)); exact HO238.out) hb); have n3_ := Aside0.mk (Kd.V_lower (Kd.V_mono (ok' := fun k_ => k_ ≠ gb213 ∧ k_ ≠ gb220 ∧ k_ ≠ gb234) ho0 (fun k_ hk_ => ⟨Or.elim hk_ (fun hs_ => hs_.1) (fun hn_ => (Kd.freshB (g := gb213) (o := .cells #[.slice Ao22 x214000_1.length co22, .bool x214001_1, .bool x214002_1, .int .i64 x214003_1] 27 (0, 0)) (by (with_reducible repeat (first | apply blk_drewN | apply blk_drew | apply blk_alloc)); exact BK213.out) k_ hn_)), Or.elim hk_ (fun hs_ => hs_.2.1) (fun hn_ => (Kd.freshB (g := gb220) (o := .cells #[.bool t216, .string t217, .string t218] 46 (0, 0)) (by (with_reducible repeat (first | apply blk_drewN | apply blk_drew | apply blk_alloc)); exact BK220.out) k_ hn_)), Or.elim hk_ (fun hs_ => hs_.2.2) (fun hn_ => (Kd.freshB (g := gb234) (o := .cells #[.slice Ao69 t236.length co69, .bool t239, .bool t240, .int .i64 t241] 27 (0, 0)) (by (with_reducible repeat (first | apply blk_drewN | apply blk_drew | apply blk_alloc)); exact BK234.out) k_ hn_))⟩)) (below_size (by repeat (first | (with_reducible first | exact HB.out | apply below_alloc | apply pw_below_drewN | apply below_drew1 | refine below_set ?_ GE213.out | refine below_set ?_ GE220.out | refine below_set ?_ GE234.out) | exact HB.out)))); have n4_ := Aside0.mk (blk_below (g := gb213) (o := .cells #[.slice Ao22 x214000_1.length co22, .bool x214001_1, .bool x214002_1, .int .i64 x214003_1] 27 (0, 0)) (by (with_reducible repeat (first | apply blk_drewN | apply blk_drew | apply blk_alloc)); exact BK213.out) hb); have n5_ := Aside0.mk (blk_below (g := gb220) (o := .cells #[.bool t216, .string t217, .string t218] 46 (0, 0)) (by (with_reducible repeat (first | apply blk_drewN | apply blk_drew | apply blk_alloc)); exact BK220.out) hb); have n6_ := Aside0.mk (blk_below (g := gb234) (o := .cells #[.slice Ao69 t236.length co69, .bool t239, .bool t240, .int .i64 t241] 27 (0, 0)) (by (with_reducible repeat (first | apply blk_drewN | apply blk_drew | apply blk_alloc)); exact BK234.out) hb); have n7_ := Aside0.mk (below_step (by repeat (first | (with_reducible first | exact HB.out | apply below_alloc | apply pw_below_drewN | apply below_drew1 | refine below_set ?_ GE213.out | refine below_set ?_ GE220.out | refine below_set ?_ GE234.out) | exact HB.out)) hb); clear HO_214000; clear HO_235000; clear HO238; clear BK213; clear BK220; clear BK234; clear HB; have HO_214000 := n0_; have HO_235000 := n1_; have HO238 := n2_; have HO245 := n3_; have BK213 := n4_; have BK220 := n5_; have BK234 := n6_; have HB := n7_; clear n0_ n1_ n2_ n3_ n4_ n5_ n6_ n7_; (try clear hb); (try clear hb2); (try clear hk); (try clear hi); (try clear ho0); obtain ⟨Ao74, co74, eo74⟩ := Kd.V_slice HO245.out; subst eo74; have hcz75_0 : w73.cell? ⟨gb213, 0, none⟩ = some (.slice Ao22 x214000_1.length co22) := (blk_cell BK213.out 0).trans rfl; have hcz75_1 : w73.cell? ⟨gb213, 1, none⟩ = some (.bool x214001_1) := (blk_cell BK213.out 1).trans rfl; have hcz75_2 : w73.cell? ⟨gb213, 2, none⟩ = some (.bool x214002_1) := (blk_cell BK213.out 2).trans rfl; have hcz75_3 : w73.cell? ⟨gb213, 3, none⟩ = some (.int .i64 x214003_1) := (blk_cell BK213.out 3).trans rfl; have hfz75_0 := blk_frozen BK213.out 0; have hfz75_1 := blk_frozen BK213.out 1; have hfz75_2 := blk_frozen BK213.out 2; have hfz75_3 := blk_frozen BK213.out 3))
                go_roundg kj18
                case measure => have := HK1.out; have := HJ10.out; have := HJ18.out; omega
                case rel => exact ⟨(wrap64 (x8_1 + 1)), (t243), (false), (t247), (t248), (.slice Ao74 t243.length co74), (by first | rfl | (simp; done) | (simp [*]; done)), H', ⟨by have := HK1.out; have := HJ10.out; have := HJ18.out; omega⟩, ⟨by (with_reducible repeat (first | apply Kd.V_alloc | apply Kd.V_drewN | apply Kd.V_drew)); exact Kd.V_mono (Kd.V_far (p := ⟨gb213, 1, none⟩) (Kd.V_far (p := ⟨gb213, 3, none⟩) (Kd.V_far (p := ⟨gb213, 2, none⟩) (Kd.V_far (p := ⟨gb213, 1, none⟩) (Kd.V_far (p := ⟨gb213, 0, none⟩) (Kd.V_mono HO245.out (fun k_ hk => (⟨hk, hk.1⟩ : _ ∧ k_ ≠ gb213))) (fun _ hk => hk.2) _) (fun _ hk => hk.2) (.bool t246)) (fun _ hk => hk.2) (.bool t247)) (fun _ hk => hk.2) _) (fun _ hk => hk.2) (.bool false)) (fun _ hk => hk.1.1)⟩, ⟨by (with_reducible repeat (first | apply blk_drewN | apply blk_drew | apply blk_alloc)); refine blk_put (cs := #[.slice Ao74 t243.length co74, .bool t246, .bool t247, .int .i64 t248]) ?_ 1 _ rfl; (with_reducible repeat (first | apply blk_drewN | apply blk_drew | apply blk_alloc)); refine blk_put (cs := #[.slice Ao74 t243.length co74, .bool t246, .bool t247, .int .i64 x214003_1]) ?_ 3 _ rfl; (with_reducible repeat (first | apply blk_drewN | apply blk_drew | apply blk_alloc)); refine blk_put (cs := #[.slice Ao74 t243.length co74, .bool t246, .bool x214002_1, .int .i64 x214003_1]) ?_ 2 _ rfl; (with_reducible repeat (first | apply blk_drewN | apply blk_drew | apply blk_alloc)); refine blk_put (cs := #[.slice Ao74 t243.length co74, .bool x214001_1, .bool x214002_1, .int .i64 x214003_1]) ?_ 1 _ rfl; (with_reducible repeat (first | apply blk_drewN | apply blk_drew | apply blk_alloc)); refine blk_put (cs := #[.slice Ao22 x214000_1.length co22, .bool x214001_1, .bool x214002_1, .int .i64 x214003_1]) ?_ 0 _ rfl; (with_reducible repeat (first | apply blk_drewN | apply blk_drew | apply blk_alloc)); exact BK213.out⟩, ⟨by repeat (first | (with_reducible first | exact HB.out | apply below_alloc | apply pw_below_drewN | apply below_drew1 | refine below_set ?_ GE213.out | refine below_set ?_ GE220.out | refine below_set ?_ GE234.out) | exact HB.out)⟩⟩
               ·
                rw [if_neg c58] at H
                have c58b0 : ((Int.tmod ((rd_T37 l0 x8_1).f0) 2) == 0) = false := beq_eq_false_iff_ne.mpr c58
                have c58b1 : ((Int.tmod ((rd_T37 l0 x8_1).f0) 2) != 0) = true := bne_iff_ne.mpr c58
                replace H := Option.bind_eq_some_iff.mp H
                obtain ⟨⟨t249, t252, t253, t254⟩, A760, H⟩ := H
                replace H : (clinkerlaw05_NandOnce.l0 kj18 l0 true (wrap64 (x8_1 + 1)) t249 false t253 t254) = some r := H
                have A76 := Aside0.mk A760
                clear A760
                have H' := Aside0.mk H
                clear H
                have hnb77 := NB213_220.out
                have hnc77 := NB220_213.out
                have hnb78 := NB213_234.out
                have hnc78 := NB234_213.out
                have hcz79_0 : wc.cell? ⟨gb213, 0, none⟩ = some (.slice Ao22 x214000_1.length co22) := (blk_cell BK213.out 0).trans rfl
                have hcz79_1 : wc.cell? ⟨gb213, 1, none⟩ = some (.bool x214001_1) := (blk_cell BK213.out 1).trans rfl
                have hcz79_2 : wc.cell? ⟨gb213, 2, none⟩ = some (.bool x214002_1) := (blk_cell BK213.out 2).trans rfl
                have hcz79_3 : wc.cell? ⟨gb213, 3, none⟩ = some (.int .i64 x214003_1) := (blk_cell BK213.out 3).trans rfl
                have hfz79_0 := blk_frozen BK213.out 0
                have hfz79_1 := blk_frozen BK213.out 1
                have hfz79_2 := blk_frozen BK213.out 2
                have hfz79_3 := blk_frozen BK213.out 3
                have hnb80 := NB234_220.out
                have hnc80 := NB220_234.out
                have hcz81_0 : wc.cell? ⟨gb234, 0, none⟩ = some (.slice Ao33 t227.length co33) := (blk_cell BK234.out 0).trans rfl
                have hcz81_1 : wc.cell? ⟨gb234, 1, none⟩ = some (.bool t230) := (blk_cell BK234.out 1).trans rfl
                have hcz81_2 : wc.cell? ⟨gb234, 2, none⟩ = some (.bool t231) := (blk_cell BK234.out 2).trans rfl
                have hcz81_3 : wc.cell? ⟨gb234, 3, none⟩ = some (.int .i64 t232) := (blk_cell BK234.out 3).trans rfl
                have hfz81_0 := blk_frozen BK234.out 0
                have hfz81_1 := blk_frozen BK234.out 1
                have hfz81_2 := blk_frozen BK234.out 2
                have hfz81_3 := blk_frozen BK234.out 3
                go_wp2_with (first | ((with_reducible refine gate_store (t := 27) (p := 13) rfl ?_); refine store_event (t := 27) (p := 13) (v := ?vo_w82) (w1 := ((((wc.setCell ⟨gb234, 0, none⟩ (.slice Ao22 x214000_1.length co22)).setCell ⟨gb234, 1, none⟩ (.bool x214001_1)).setCell ⟨gb234, 2, none⟩ (.bool x214002_1)).setCell ⟨gb234, 3, none⟩ (.int .i64 x214003_1))) ?hg ?ho ?hn ?hr ?_; (case ho => rfl); (case hg => rfl); (case hn => rfl); (case hr => first | (go_simp; done) | (go_simp; rfl)); intro w82 hw; have n0_ : Aside0 (Kd.V k44 44 w82 w.heap.size (fun k_ => k_ ≠ gb213 ∧ k_ ≠ gb220 ∧ k_ ≠ gb234) (.slice Ao22 x214000_1.length co22) x214000_1) := ⟨(by rw [hw]; exact (by (with_reducible repeat (first | apply Kd.V_alloc | apply Kd.V_drewN | apply Kd.V_drew)); exact Kd.V_mono (Kd.V_far (p := ⟨gb234, 3, none⟩) (Kd.V_far (p := ⟨gb234, 2, none⟩) (Kd.V_far (p := ⟨gb234, 1, none⟩) (Kd.V_far (p := ⟨gb234, 0, none⟩) (Kd.V_mono HO_214000.out (fun k_ hk => (⟨hk, hk.2.2⟩ : _ ∧ k_ ≠ gb234))) (fun _ hk => hk.2) _) (fun _ hk => hk.2) (.bool x214001_1)) (fun _ hk => hk.2) (.bool x214002_1)) (fun _ hk => hk.2) _) (fun _ hk => ⟨hk.1.1, ⟨hk.1.2.1, hk.1.2.2⟩⟩)))⟩; have n1_ : Aside0 (Kd.V k44 44 w82 w.heap.size (fun k_ => k_ ≠ gb213 ∧ k_ ≠ gb220 ∧ k_ ≠ gb234) (.slice Ao33 t227.length co33) t227) := ⟨(by rw [hw]; exact (by (with_reducible repeat (first | apply Kd.V_alloc | apply Kd.V_drewN | apply Kd.V_drew)); exact Kd.V_mono (Kd.V_far (p := ⟨gb234, 3, none⟩) (Kd.V_far (p := ⟨gb234, 2, none⟩) (Kd.V_far (p := ⟨gb234, 1, none⟩) (Kd.V_far (p := ⟨gb234, 0, none⟩) (Kd.V_mono HO_235000.out (fun k_ hk => (⟨hk, hk.2.2⟩ : _ ∧ k_ ≠ gb234))) (fun _ hk => hk.2) _) (fun _ hk => hk.2) (.bool x214001_1)) (fun _ hk => hk.2) (.bool x214002_1)) (fun _ hk => hk.2) _) (fun _ hk => ⟨hk.1.1, ⟨hk.1.2.1, hk.1.2.2⟩⟩)))⟩; have n2_ : Aside0 (w82.heap[gb213]? = some (.cells #[.slice Ao22 x214000_1.length co22, .bool x214001_1, .bool x214002_1, .int .i64 x214003_1] 27 (0, 0))) := ⟨(by rw [hw]; exact (by (with_reducible repeat (first | apply blk_drewN | apply blk_drew | apply blk_alloc)); refine blk_far ?_ NB213_234.out _; (with_reducible repeat (first | apply blk_drewN | apply blk_drew | apply blk_alloc)); refine blk_far ?_ NB213_234.out _; (with_reducible repeat (first | apply blk_drewN | apply blk_drew | apply blk_alloc)); refine blk_far ?_ NB213_234.out _; (with_reducible repeat (first | apply blk_drewN | apply blk_drew | apply blk_alloc)); refine blk_far ?_ NB213_234.out _; (with_reducible repeat (first | apply blk_drewN | apply blk_drew | apply blk_alloc)); exact BK213.out))⟩; have n3_ : Aside0 (w82.heap[gb220]? = some (.cells #[.bool t216, .string t217, .string t218] 46 (0, 0))) := ⟨(by rw [hw]; exact (by (with_reducible repeat (first | apply blk_drewN | apply blk_drew | apply blk_alloc)); refine blk_far ?_ NB220_234.out _; (with_reducible repeat (first | apply blk_drewN | apply blk_drew | apply blk_alloc)); refine blk_far ?_ NB220_234.out _; (with_reducible repeat (first | apply blk_drewN | apply blk_drew | apply blk_alloc)); refine blk_far ?_ NB220_234.out _; (with_reducible repeat (first | apply blk_drewN | apply blk_drew | apply blk_alloc)); refine blk_far ?_ NB220_234.out _; (with_reducible repeat (first | apply blk_drewN | apply blk_drew | apply blk_alloc)); exact BK220.out))⟩; have n4_ : Aside0 (w82.heap[gb234]? = some (.cells #[.slice Ao22 x214000_1.length co22, .bool x214001_1, .bool x214002_1, .int .i64 x214003_1] 27 (0, 0))) := ⟨(by rw [hw]; exact (by (with_reducible repeat (first | apply blk_drewN | apply blk_drew | apply blk_alloc)); refine blk_put (cs := #[.slice Ao22 x214000_1.length co22, .bool x214001_1, .bool x214002_1, .int .i64 t232]) ?_ 3 _ rfl; (with_reducible repeat (first | apply blk_drewN | apply blk_drew | apply blk_alloc)); refine blk_put (cs := #[.slice Ao22 x214000_1.length co22, .bool x214001_1, .bool t231, .int .i64 t232]) ?_ 2 _ rfl; (with_reducible repeat (first | apply blk_drewN | apply blk_drew | apply blk_alloc)); refine blk_put (cs := #[.slice Ao22 x214000_1.length co22, .bool t230, .bool t231, .int .i64 t232]) ?_ 1 _ rfl; (with_reducible repeat (first | apply blk_drewN | apply blk_drew | apply blk_alloc)); refine blk_put (cs := #[.slice Ao33 t227.length co33, .bool t230, .bool t231, .int .i64 t232]) ?_ 0 _ rfl; (with_reducible repeat (first | apply blk_drewN | apply blk_drew | apply blk_alloc)); exact BK234.out))⟩; have n5_ : Aside0 (Below w.heap.size w w82) := ⟨(by rw [hw]; exact (by repeat (first | (with_reducible first | exact HB.out | apply below_alloc | apply pw_below_drewN | apply below_drew1 | refine below_set ?_ GE213.out | refine below_set ?_ GE220.out | refine below_set ?_ GE234.out) | exact HB.out)))⟩; clear hw; clear HO_214000; clear HO_235000; clear BK213; clear BK220; clear BK234; clear HB; have HO_214000 := n0_; have HO_235000 := n1_; have BK213 := n2_; have BK220 := n3_; have BK234 := n4_; have HB := n5_; clear n0_ n1_ n2_ n3_ n4_ n5_; have p235 : 0 ≤ (x8_1 : Int) := of_decide_eq_true (by first | (with_reducible assumption) | assumption); have q235 : x8_1 < (l0.length : Int) := of_decide_eq_true (by first | (with_reducible assumption) | assumption); obtain ⟨ad235, e235, hx235_0, hx235_1, hx235_2, hx235_3, hx235_4, hx235_5⟩ := at_T37 HR0.out x8_1 p235 q235; obtain rfl : ad214 = ad235 := (by injection e235); replace hx235_0 := (HB.out.cell (World.block_lt_of_cell? w _ hx235_0)).trans hx235_0; replace hx235_1 := (HB.out.cell (World.block_lt_of_cell? w _ hx235_1)).trans hx235_1; replace hx235_2 := (HB.out.cell (World.block_lt_of_cell? w _ hx235_2)).trans hx235_2; replace hx235_3 := (HB.out.cell (World.block_lt_of_cell? w _ hx235_3)).trans hx235_3; replace hx235_4 := (HB.out.cell (World.block_lt_of_cell? w _ hx235_4)).trans hx235_4; replace hx235_5 := (HB.out.cell (World.block_lt_of_cell? w _ hx235_5)).trans hx235_5; replace p235 := eq_true p235; replace q235 := eq_true q235; have hcz83_0 : w82.cell? ⟨gb234, 0, none⟩ = some (.slice Ao22 x214000_1.length co22) := (blk_cell BK234.out 0).trans rfl; have hcz83_1 : w82.cell? ⟨gb234, 1, none⟩ = some (.bool x214001_1) := (blk_cell BK234.out 1).trans rfl; have hcz83_2 : w82.cell? ⟨gb234, 2, none⟩ = some (.bool x214002_1) := (blk_cell BK234.out 2).trans rfl; have hcz83_3 : w82.cell? ⟨gb234, 3, none⟩ = some (.int .i64 x214003_1) := (blk_cell BK234.out 3).trans rfl; have hfz83_0 := blk_frozen BK234.out 0; have hfz83_1 := blk_frozen BK234.out 1; have hfz83_2 := blk_frozen BK234.out 2; have hfz83_3 := blk_frozen BK234.out 3) | ((with_reducible refine gate_callee (f := 22) rfl ?_); refine goesL_ (some 108) rfl rfl Try.func22 (by kernel_rfl) rfl #[.agg #[.slice Ao22 x214000_1.length co22, .bool x214001_1, .bool x214002_1, .int .i64 x214003_1]] rfl (by (try simp only [List.map_toArray, List.map_cons, List.map_nil]); first | done | rfl | (simp only [List.length_drop, List.length_take]; rfl)) ?_; (with_reducible refine (nand_On.calls (fun k_ => (k_ ≠ gb213 ∧ (k_ ≠ gb220 ∧ k_ ≠ gb234))) _ _ x214000_1 x214001_1 x214002_1 x214003_1 t249 t252 t253 t254 _ ?side1 A76.out).mono ?_); (case side1 => exact HO_214000.out); rintro e w84 ⟨v250, rfl, ho0, hb⟩; refine ⟨_, rfl, ?_⟩; have n0_ := Aside0.mk (Kd.V_below (by (with_reducible repeat (first | apply Kd.V_alloc | apply Kd.V_drewN | apply Kd.V_drew)); exact HO_214000.out) hb); have n1_ := Aside0.mk (Kd.V_below (by (with_reducible repeat (first | apply Kd.V_alloc | apply Kd.V_drewN | apply Kd.V_drew)); exact HO_235000.out) hb); have n2_ := Aside0.mk (Kd.V_lower (Kd.V_mono (ok' := fun k_ => k_ ≠ gb213 ∧ k_ ≠ gb220 ∧ k_ ≠ gb234) ho0 (fun k_ hk_ => ⟨Or.elim hk_ (fun hs_ => hs_.1) (fun hn_ => (Kd.freshB (g := gb213) (o := .cells #[.slice Ao22 x214000_1.length co22, .bool x214001_1, .bool x214002_1, .int .i64 x214003_1] 27 (0, 0)) (by (with_reducible repeat (first | apply blk_drewN | apply blk_drew | apply blk_alloc)); exact BK213.out) k_ hn_)), Or.elim hk_ (fun hs_ => hs_.2.1) (fun hn_ => (Kd.freshB (g := gb220) (o := .cells #[.bool t216, .string t217, .string t218] 46 (0, 0)) (by (with_reducible repeat (first | apply blk_drewN | apply blk_drew | apply blk_alloc)); exact BK220.out) k_ hn_)), Or.elim hk_ (fun hs_ => hs_.2.2) (fun hn_ => (Kd.freshB (g := gb234) (o := .cells #[.slice Ao22 x214000_1.length co22, .bool x214001_1, .bool x214002_1, .int .i64 x214003_1] 27 (0, 0)) (by (with_reducible repeat (first | apply blk_drewN | apply blk_drew | apply blk_alloc)); exact BK234.out) k_ hn_))⟩)) (below_size (by repeat (first | (with_reducible first | exact HB.out | apply below_alloc | apply pw_below_drewN | apply below_drew1 | refine below_set ?_ GE213.out | refine below_set ?_ GE220.out | refine below_set ?_ GE234.out) | exact HB.out)))); have n3_ := Aside0.mk (blk_below (g := gb213) (o := .cells #[.slice Ao22 x214000_1.length co22, .bool x214001_1, .bool x214002_1, .int .i64 x214003_1] 27 (0, 0)) (by (with_reducible repeat (first | apply blk_drewN | apply blk_drew | apply blk_alloc)); exact BK213.out) hb); have n4_ := Aside0.mk (blk_below (g := gb220) (o := .cells #[.bool t216, .string t217, .string t218] 46 (0, 0)) (by (with_reducible repeat (first | apply blk_drewN | apply blk_drew | apply blk_alloc)); exact BK220.out) hb); have n5_ := Aside0.mk (blk_below (g := gb234) (o := .cells #[.slice Ao22 x214000_1.length co22, .bool x214001_1, .bool x214002_1, .int .i64 x214003_1] 27 (0, 0)) (by (with_reducible repeat (first | apply blk_drewN | apply blk_drew | apply blk_alloc)); exact BK234.out) hb); have n6_ := Aside0.mk (below_step (by repeat (first | (with_reducible first | exact HB.out | apply below_alloc | apply pw_below_drewN | apply below_drew1 | refine below_set ?_ GE213.out | refine below_set ?_ GE220.out | refine below_set ?_ GE234.out) | exact HB.out)) hb); clear HO_214000; clear HO_235000; clear BK213; clear BK220; clear BK234; clear HB; have HO_214000 := n0_; have HO_235000 := n1_; have HO251 := n2_; have BK213 := n3_; have BK220 := n4_; have BK234 := n5_; have HB := n6_; clear n0_ n1_ n2_ n3_ n4_ n5_ n6_; (try clear hb); (try clear hb2); (try clear hk); (try clear hi); (try clear ho0); obtain ⟨Ao85, co85, eo85⟩ := Kd.V_slice HO251.out; subst eo85; have hcz86_0 : w84.cell? ⟨gb213, 0, none⟩ = some (.slice Ao22 x214000_1.length co22) := (blk_cell BK213.out 0).trans rfl; have hcz86_1 : w84.cell? ⟨gb213, 1, none⟩ = some (.bool x214001_1) := (blk_cell BK213.out 1).trans rfl; have hcz86_2 : w84.cell? ⟨gb213, 2, none⟩ = some (.bool x214002_1) := (blk_cell BK213.out 2).trans rfl; have hcz86_3 : w84.cell? ⟨gb213, 3, none⟩ = some (.int .i64 x214003_1) := (blk_cell BK213.out 3).trans rfl; have hfz86_0 := blk_frozen BK213.out 0; have hfz86_1 := blk_frozen BK213.out 1; have hfz86_2 := blk_frozen BK213.out 2; have hfz86_3 := blk_frozen BK213.out 3))
                go_roundg kj18
                case measure => have := HK1.out; have := HJ10.out; have := HJ18.out; omega
                case rel => exact ⟨(wrap64 (x8_1 + 1)), (t249), (false), (t253), (t254), (.slice Ao85 t249.length co85), (by first | rfl | (simp; done) | (simp [*]; done)), H', ⟨by have := HK1.out; have := HJ10.out; have := HJ18.out; omega⟩, ⟨by (with_reducible repeat (first | apply Kd.V_alloc | apply Kd.V_drewN | apply Kd.V_drew)); exact Kd.V_mono (Kd.V_far (p := ⟨gb213, 1, none⟩) (Kd.V_far (p := ⟨gb213, 3, none⟩) (Kd.V_far (p := ⟨gb213, 2, none⟩) (Kd.V_far (p := ⟨gb213, 1, none⟩) (Kd.V_far (p := ⟨gb213, 0, none⟩) (Kd.V_mono HO251.out (fun k_ hk => (⟨hk, hk.1⟩ : _ ∧ k_ ≠ gb213))) (fun _ hk => hk.2) _) (fun _ hk => hk.2) (.bool t252)) (fun _ hk => hk.2) (.bool t253)) (fun _ hk => hk.2) _) (fun _ hk => hk.2) (.bool false)) (fun _ hk => hk.1.1)⟩, ⟨by (with_reducible repeat (first | apply blk_drewN | apply blk_drew | apply blk_alloc)); refine blk_put (cs := #[.slice Ao85 t249.length co85, .bool t252, .bool t253, .int .i64 t254]) ?_ 1 _ rfl; (with_reducible repeat (first | apply blk_drewN | apply blk_drew | apply blk_alloc)); refine blk_put (cs := #[.slice Ao85 t249.length co85, .bool t252, .bool t253, .int .i64 x214003_1]) ?_ 3 _ rfl; (with_reducible repeat (first | apply blk_drewN | apply blk_drew | apply blk_alloc)); refine blk_put (cs := #[.slice Ao85 t249.length co85, .bool t252, .bool x214002_1, .int .i64 x214003_1]) ?_ 2 _ rfl; (with_reducible repeat (first | apply blk_drewN | apply blk_drew | apply blk_alloc)); refine blk_put (cs := #[.slice Ao85 t249.length co85, .bool x214001_1, .bool x214002_1, .int .i64 x214003_1]) ?_ 1 _ rfl; (with_reducible repeat (first | apply blk_drewN | apply blk_drew | apply blk_alloc)); refine blk_put (cs := #[.slice Ao22 x214000_1.length co22, .bool x214001_1, .bool x214002_1, .int .i64 x214003_1]) ?_ 0 _ rfl; (with_reducible repeat (first | apply blk_drewN | apply blk_drew | apply blk_alloc)); exact BK213.out⟩, ⟨by repeat (first | (with_reducible first | exact HB.out | apply below_alloc | apply pw_below_drewN | apply below_drew1 | refine below_set ?_ GE213.out | refine below_set ?_ GE220.out | refine below_set ?_ GE234.out) | exact HB.out)⟩⟩
              ·
               rw [if_neg c57] at H
               exact absurd H (by simp)
             ·
              rw [if_neg c56] at H
              exact absurd H (by simp)
            ·
             rw [if_neg c55] at H
             have c55b0 : (t233 == 1) = false := beq_eq_false_iff_ne.mpr c55
             have c55b1 : (t233 != 1) = true := bne_iff_ne.mpr c55
             replace H := Option.bind_eq_some_iff.mp H
             obtain ⟨⟨t255, t258, t259, t260⟩, A870, H⟩ := H
             replace H : (clinkerlaw05_NandOnce.l0 kj18 l0 true (wrap64 (x8_1 + 1)) t255 false t259 t260) = some r := H
             have A87 := Aside0.mk A870
             clear A870
             have H' := Aside0.mk H
             clear H
             have hnb88 := NB234_213.out
             have hnc88 := NB213_234.out
             have hnb89 := NB234_220.out
             have hnc89 := NB220_234.out
             have hcz90_0 : wc.cell? ⟨gb234, 0, none⟩ = some (.slice Ao33 t227.length co33) := (blk_cell BK234.out 0).trans rfl
             have hcz90_1 : wc.cell? ⟨gb234, 1, none⟩ = some (.bool t230) := (blk_cell BK234.out 1).trans rfl
             have hcz90_2 : wc.cell? ⟨gb234, 2, none⟩ = some (.bool t231) := (blk_cell BK234.out 2).trans rfl
             have hcz90_3 : wc.cell? ⟨gb234, 3, none⟩ = some (.int .i64 t232) := (blk_cell BK234.out 3).trans rfl
             have hfz90_0 := blk_frozen BK234.out 0
             have hfz90_1 := blk_frozen BK234.out 1
             have hfz90_2 := blk_frozen BK234.out 2
             have hfz90_3 := blk_frozen BK234.out 3
             go_wp2_with (first | ((with_reducible refine gate_callee (f := 22) rfl ?_); refine goesL_ (some 108) rfl rfl Try.func22 (by kernel_rfl) rfl #[.agg #[.slice Ao33 t227.length co33, .bool t230, .bool t231, .int .i64 t232]] rfl (by (try simp only [List.map_toArray, List.map_cons, List.map_nil]); first | done | rfl | (simp only [List.length_drop, List.length_take]; rfl)) ?_; (with_reducible refine (nand_On.calls (fun k_ => (k_ ≠ gb213 ∧ (k_ ≠ gb220 ∧ k_ ≠ gb234))) _ _ t227 t230 t231 t232 t255 t258 t259 t260 _ ?side1 A87.out).mono ?_); (case side1 => exact HO_235000.out); rintro e w91 ⟨v256, rfl, ho0, hb⟩; refine ⟨_, rfl, ?_⟩; have n0_ := Aside0.mk (Kd.V_below (by (with_reducible repeat (first | apply Kd.V_alloc | apply Kd.V_drewN | apply Kd.V_drew)); exact HO_214000.out) hb); have n1_ := Aside0.mk (Kd.V_below (by (with_reducible repeat (first | apply Kd.V_alloc | apply Kd.V_drewN | apply Kd.V_drew)); exact HO_235000.out) hb); have n2_ := Aside0.mk (Kd.V_lower (Kd.V_mono (ok' := fun k_ => k_ ≠ gb213 ∧ k_ ≠ gb220 ∧ k_ ≠ gb234) ho0 (fun k_ hk_ => ⟨Or.elim hk_ (fun hs_ => hs_.1) (fun hn_ => (Kd.freshB (g := gb213) (o := .cells #[.slice Ao22 x214000_1.length co22, .bool x214001_1, .bool x214002_1, .int .i64 x214003_1] 27 (0, 0)) (by (with_reducible repeat (first | apply blk_drewN | apply blk_drew | apply blk_alloc)); exact BK213.out) k_ hn_)), Or.elim hk_ (fun hs_ => hs_.2.1) (fun hn_ => (Kd.freshB (g := gb220) (o := .cells #[.bool t216, .string t217, .string t218] 46 (0, 0)) (by (with_reducible repeat (first | apply blk_drewN | apply blk_drew | apply blk_alloc)); exact BK220.out) k_ hn_)), Or.elim hk_ (fun hs_ => hs_.2.2) (fun hn_ => (Kd.freshB (g := gb234) (o := .cells #[.slice Ao33 t227.length co33, .bool t230, .bool t231, .int .i64 t232] 27 (0, 0)) (by (with_reducible repeat (first | apply blk_drewN | apply blk_drew | apply blk_alloc)); exact BK234.out) k_ hn_))⟩)) (below_size (by repeat (first | (with_reducible first | exact HB.out | apply below_alloc | apply pw_below_drewN | apply below_drew1 | refine below_set ?_ GE213.out | refine below_set ?_ GE220.out | refine below_set ?_ GE234.out) | exact HB.out)))); have n3_ := Aside0.mk (blk_below (g := gb213) (o := .cells #[.slice Ao22 x214000_1.length co22, .bool x214001_1, .bool x214002_1, .int .i64 x214003_1] 27 (0, 0)) (by (with_reducible repeat (first | apply blk_drewN | apply blk_drew | apply blk_alloc)); exact BK213.out) hb); have n4_ := Aside0.mk (blk_below (g := gb220) (o := .cells #[.bool t216, .string t217, .string t218] 46 (0, 0)) (by (with_reducible repeat (first | apply blk_drewN | apply blk_drew | apply blk_alloc)); exact BK220.out) hb); have n5_ := Aside0.mk (blk_below (g := gb234) (o := .cells #[.slice Ao33 t227.length co33, .bool t230, .bool t231, .int .i64 t232] 27 (0, 0)) (by (with_reducible repeat (first | apply blk_drewN | apply blk_drew | apply blk_alloc)); exact BK234.out) hb); have n6_ := Aside0.mk (below_step (by repeat (first | (with_reducible first | exact HB.out | apply below_alloc | apply pw_below_drewN | apply below_drew1 | refine below_set ?_ GE213.out | refine below_set ?_ GE220.out | refine below_set ?_ GE234.out) | exact HB.out)) hb); clear HO_214000; clear HO_235000; clear BK213; clear BK220; clear BK234; clear HB; have HO_214000 := n0_; have HO_235000 := n1_; have HO257 := n2_; have BK213 := n3_; have BK220 := n4_; have BK234 := n5_; have HB := n6_; clear n0_ n1_ n2_ n3_ n4_ n5_ n6_; (try clear hb); (try clear hb2); (try clear hk); (try clear hi); (try clear ho0); obtain ⟨Ao92, co92, eo92⟩ := Kd.V_slice HO257.out; subst eo92; have hnb93 := NB213_220.out; have hnc93 := NB220_213.out; have hcz94_0 : w91.cell? ⟨gb213, 0, none⟩ = some (.slice Ao22 x214000_1.length co22) := (blk_cell BK213.out 0).trans rfl; have hcz94_1 : w91.cell? ⟨gb213, 1, none⟩ = some (.bool x214001_1) := (blk_cell BK213.out 1).trans rfl; have hcz94_2 : w91.cell? ⟨gb213, 2, none⟩ = some (.bool x214002_1) := (blk_cell BK213.out 2).trans rfl; have hcz94_3 : w91.cell? ⟨gb213, 3, none⟩ = some (.int .i64 x214003_1) := (blk_cell BK213.out 3).trans rfl; have hfz94_0 := blk_frozen BK213.out 0; have hfz94_1 := blk_frozen BK213.out 1; have hfz94_2 := blk_frozen BK213.out 2; have hfz94_3 := blk_frozen BK213.out 3))
             go_roundg kj18
             case measure => have := HK1.out; have := HJ10.out; have := HJ18.out; omega
             case rel => exact ⟨(wrap64 (x8_1 + 1)), (t255), (false), (t259), (t260), (.slice Ao92 t255.length co92), (by first | rfl | (simp; done) | (simp [*]; done)), H', ⟨by have := HK1.out; have := HJ10.out; have := HJ18.out; omega⟩, ⟨by (with_reducible repeat (first | apply Kd.V_alloc | apply Kd.V_drewN | apply Kd.V_drew)); exact Kd.V_mono (Kd.V_far (p := ⟨gb213, 1, none⟩) (Kd.V_far (p := ⟨gb213, 3, none⟩) (Kd.V_far (p := ⟨gb213, 2, none⟩) (Kd.V_far (p := ⟨gb213, 1, none⟩) (Kd.V_far (p := ⟨gb213, 0, none⟩) (Kd.V_mono HO257.out (fun k_ hk => (⟨hk, hk.1⟩ : _ ∧ k_ ≠ gb213))) (fun _ hk => hk.2) _) (fun _ hk => hk.2) (.bool t258)) (fun _ hk => hk.2) (.bool t259)) (fun _ hk => hk.2) _) (fun _ hk => hk.2) (.bool false)) (fun _ hk => hk.1.1)⟩, ⟨by (with_reducible repeat (first | apply blk_drewN | apply blk_drew | apply blk_alloc)); refine blk_put (cs := #[.slice Ao92 t255.length co92, .bool t258, .bool t259, .int .i64 t260]) ?_ 1 _ rfl; (with_reducible repeat (first | apply blk_drewN | apply blk_drew | apply blk_alloc)); refine blk_put (cs := #[.slice Ao92 t255.length co92, .bool t258, .bool t259, .int .i64 x214003_1]) ?_ 3 _ rfl; (with_reducible repeat (first | apply blk_drewN | apply blk_drew | apply blk_alloc)); refine blk_put (cs := #[.slice Ao92 t255.length co92, .bool t258, .bool x214002_1, .int .i64 x214003_1]) ?_ 2 _ rfl; (with_reducible repeat (first | apply blk_drewN | apply blk_drew | apply blk_alloc)); refine blk_put (cs := #[.slice Ao92 t255.length co92, .bool x214001_1, .bool x214002_1, .int .i64 x214003_1]) ?_ 1 _ rfl; (with_reducible repeat (first | apply blk_drewN | apply blk_drew | apply blk_alloc)); refine blk_put (cs := #[.slice Ao22 x214000_1.length co22, .bool x214001_1, .bool x214002_1, .int .i64 x214003_1]) ?_ 0 _ rfl; (with_reducible repeat (first | apply blk_drewN | apply blk_drew | apply blk_alloc)); exact BK213.out⟩, ⟨by repeat (first | (with_reducible first | exact HB.out | apply below_alloc | apply pw_below_drewN | apply below_drew1 | refine below_set ?_ GE213.out | refine below_set ?_ GE220.out | refine below_set ?_ GE234.out) | exact HB.out)⟩⟩
        ·
         rw [if_neg c15] at H
         exact absurd H (by simp)
       ·
        rw [if_neg c14] at H
        exact absurd H (by simp)
      ·
       replace c13 := Bool.eq_false_iff.mpr c13
       subst c13
       have H1 : (some true) = some r := by rw [if_neg (show ¬ (false = true) by decide)] at H; exact H
       clear H
       have H := H1
       clear H1
       obtain rfl := Option.some.inj H
       go_wp2
       go_ret
       exact ⟨by first | rfl | (simp [errW_none, errW_some] <;> rfl) | (simp [*, errW_none, errW_some] <;> rfl), by repeat (first | exact HB.out | apply below_alloc | apply pw_below_drewN | apply below_drew1 | refine below_set ?_ GE213.out)⟩
 ·
  replace c4 := Bool.eq_false_iff.mpr c4
  subst c4
  have H1 : (some false) = some r := by rw [if_neg (show ¬ (false = true) by decide)] at H; exact H
  clear H
  have H := H1
  clear H1
  exact absurd (H.trans (congrArg some hrt.out)) (by simp)

end Go.Proofs.Ythjjngfbpoapnaa.PAll
