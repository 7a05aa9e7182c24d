/- Written by a program of this session (wip/xp) out of the translation: functions in plain Lean, and proofs that the calls come to these. -/
import Derived.Test.YtfolonajajideaaPAllx0
import Derived.Test.YtfolonajajideaaPAllx10
import Derived.Test.YtfolonajajideaaPAllx14
import Derived.Test.YtfolonajajideaaShort
namespace Go.Proofs.Ytfolonajajideaa.PAll
open Go.RowKit Go.Proofs.YtfolonajajideaaW.PrintWords Go.Proofs.YtfolonajajideaaW.PrintLast Go.Proofs.YtfolonajajideaaW.PrintMore
attribute [local go_sem] max2_int min2_int max_two min_two max_three min_three max_four min_four   -- for this text's walks alone
set_option linter.unusedVariables false
set_option linter.unusedSimpArgs false

/-! ### clinkerref03_Decode: function 43 -/
mutual
def clinkerref03_Decode.j0 : Nat → ByteArray → ByteArray → List Int → List Int → List Int → Bool → Option (Int × Int × List Int × List Int × Int)
 | 0, _, _, _, _, _, _ => none
 | k + 1, x0, x1, x6, x9, x11, x50 => if x50 = true then (some (0, 0, ([] : List Int), ([] : List Int), 30)) else (if 0 < (x6.length : Int) then (if 1 < (x6.length : Int) then (clinkerref03_Decode.l0 k x0 x1 x11 0 (rd x6 0) (rd x6 1) x9 ([] : List Int)) else (none)) else (none))
def clinkerref03_Decode.l0 : Nat → ByteArray → ByteArray → List Int → Int → Int → Int → List Int → List Int → Option (Int × Int × List Int × List Int × Int)
 | 0, _, _, _, _, _, _, _, _ => none
 | k + 1, x0, x1, x11, x15, x264000, x264001, x264002, x264003 => if x15 < (x11.length : Int) then (if 0 ≤ x15 then (if x264003.length < 17592186044416 then (clinkerref03_Decode.l0 k x0 x1 x11 (wrap64 (x15 + 1)) x264000 x264001 x264002 (x264003 ++ [wrap64 ((rd x11 x15) - 1)])) else (none)) else (none)) else ((clinkerref03_Encode.f k x264000 x264001 x264002 x264003 x1).bind fun bt268 => (if bt268.2 = 0 then (if bt268.1.toList = x0.toList then (some (x264000, x264001, x264002, x264003, 0)) else (some (0, 0, ([] : List Int), ([] : List Int), 30))) else (some (0, 0, ([] : List Int), ([] : List Int), 30))))
end
def clinkerref03_Decode.f (k : Nat) (a0 : ByteArray) (a1 : ByteArray) : Option (Int × Int × List Int × List Int × Int) := (clinkerref02_Unpack.f k a0).bind fun bt246 => ((clinkerref02_Unpack.f k bt246.2.1).bind fun bt251 => ((clinkerref02_Unpack.f k bt251.2.1).bind fun bt256 => (if bt246.2.2 = 0 then (if bt251.2.2 = 0 then (if bt256.2.2 = 0 then (clinkerref03_Decode.j0 k a0 a1 bt246.1 bt251.1 bt256.1 ((bt246.1.length : Int) != 2)) else (clinkerref03_Decode.j0 k a0 a1 bt246.1 bt251.1 bt256.1 true)) else (clinkerref03_Decode.j0 k a0 a1 bt246.1 bt251.1 bt256.1 true)) else (clinkerref03_Decode.j0 k a0 a1 bt246.1 bt251.1 bt256.1 true))))
theorem clinkerref03_Decode.mono_l : ∀ k, (∀ y0 y1 y2 y3 y4 y5, LeO (clinkerref03_Decode.j0 k y0 y1 y2 y3 y4 y5) (clinkerref03_Decode.j0 (k + 1) y0 y1 y2 y3 y4 y5)) ∧ (∀ y0 y1 y2 y3 y4 y5 y6 y7, LeO (clinkerref03_Decode.l0 k y0 y1 y2 y3 y4 y5 y6 y7) (clinkerref03_Decode.l0 (k + 1) y0 y1 y2 y3 y4 y5 y6 y7))
 | 0 => ⟨fun _ _ _ _ _ _ r h => by simp [clinkerref03_Decode.j0] at h, fun _ _ _ _ _ _ _ _ r h => by simp [clinkerref03_Decode.l0] at h⟩
 | k + 1 => by
  obtain ⟨ih0, ih1⟩ := clinkerref03_Decode.mono_l k
  refine ⟨?_, ?_⟩
  ·
   intro y0 y1 y2 y3 y4 y5
   unfold clinkerref03_Decode.j0
   repeat' first
   | (with_reducible exact ih0 _ _ _ _ _ _)
   | (with_reducible exact ih1 _ _ _ _ _ _ _ _)
   | (with_reducible exact clinkerref02_Unpack.mono _ _)
   | (with_reducible exact clinkerref03_Encode.mono _ _ _ _ _ _)
   | (with_reducible exact LeO.refl _)
   | (with_reducible exact LeO.none _)
   | (with_reducible refine LeO.ite ?_ ?_)
   | (with_reducible refine LeO.bind ?_ (fun _ => ?_))
   | exact ih0 _ _ _ _ _ _
   | exact ih1 _ _ _ _ _ _ _ _
   | exact clinkerref02_Unpack.mono _ _
   | exact clinkerref03_Encode.mono _ _ _ _ _ _
   | exact LeO.none _
   | refine LeO.ite ?_ ?_
   | refine LeO.bind ?_ (fun _ => ?_)
  ·
   intro y0 y1 y2 y3 y4 y5 y6 y7
   unfold clinkerref03_Decode.l0
   repeat' first
   | (with_reducible exact ih0 _ _ _ _ _ _)
   | (with_reducible exact ih1 _ _ _ _ _ _ _ _)
   | (with_reducible exact clinkerref02_Unpack.mono _ _)
   | (with_reducible exact clinkerref03_Encode.mono _ _ _ _ _ _)
   | (with_reducible exact LeO.refl _)
   | (with_reducible exact LeO.none _)
   | (with_reducible refine LeO.ite ?_ ?_)
   | (with_reducible refine LeO.bind ?_ (fun _ => ?_))
   | exact ih0 _ _ _ _ _ _
   | exact ih1 _ _ _ _ _ _ _ _
   | exact clinkerref02_Unpack.mono _ _
   | exact clinkerref03_Encode.mono _ _ _ _ _ _
   | exact LeO.none _
   | refine LeO.ite ?_ ?_
   | refine LeO.bind ?_ (fun _ => ?_)
theorem clinkerref03_Decode.mono : ∀ a0 a1 k, LeO (clinkerref03_Decode.f k a0 a1) (clinkerref03_Decode.f (k + 1) a0 a1) := by
 intro a0 a1 k
 obtain ⟨ih0, ih1⟩ := clinkerref03_Decode.mono_l k
 unfold clinkerref03_Decode.f
 repeat' first
   | (with_reducible exact ih0 _ _ _ _ _ _)
   | (with_reducible exact ih1 _ _ _ _ _ _ _ _)
   | (with_reducible exact clinkerref02_Unpack.mono _ _)
   | (with_reducible exact clinkerref03_Encode.mono _ _ _ _ _ _)
   | (with_reducible exact LeO.refl _)
   | (with_reducible exact LeO.none _)
   | (with_reducible refine LeO.ite ?_ ?_)
   | (with_reducible refine LeO.bind ?_ (fun _ => ?_))
   | exact ih0 _ _ _ _ _ _
   | exact ih1 _ _ _ _ _ _ _ _
   | exact clinkerref02_Unpack.mono _ _
   | exact clinkerref03_Encode.mono _ _ _ _ _ _
   | exact LeO.none _
   | refine LeO.ite ?_ ?_
   | refine LeO.bind ?_ (fun _ => ?_)
def clinkerref03_Decode.T6 : Bool × List (List Nat × List Nat) := (true, [([], []), ([0], [0]), ([1], [1]), ([], []), ([3], [3]), ([4], [4]), ([], []), ([2, 5, 6], [2, 5, 6]), ([], []), ([8, 7, 0, 1, 2, 3, 4, 5, 6, 7, 8], [7, 8])])
def clinkerref03_Decode.B6 : List Nat := [0, 1, 3, 0, 8, 24, 0, 127, 0, 511]
theorem clinkerref03_Decode.tab6 : rtab .any (opsOf Try.f43 6) = clinkerref03_Decode.T6 := by kernel_rfl
theorem clinkerref03_Decode.bits6 : waitsOk clinkerref03_Decode.T6.2 clinkerref03_Decode.B6 = true := by kernel_rfl
def clinkerref03_Decode.T10 : Bool × List (List Nat × List Nat) := (true, [([], []), ([0], [0]), ([], []), ([], []), ([2, 3], [2, 3]), ([4], [4]), ([5], [5]), ([6], [6]), ([1, 7], [1, 7]), ([0, 1, 2, 3, 4, 5, 6, 7, 8], []), ([9, 8, 8, 0, 1, 2, 3, 4, 5, 6, 7, 8], [8, 9])])
def clinkerref03_Decode.B10 : List Nat := [0, 1, 0, 0, 12, 28, 60, 124, 255, 511, 1023]
theorem clinkerref03_Decode.tab10 : rtab .any (opsOf Try.f43 10) = clinkerref03_Decode.T10 := by kernel_rfl
theorem clinkerref03_Decode.bits10 : waitsOk clinkerref03_Decode.T10.2 clinkerref03_Decode.B10 = true := by kernel_rfl
abbrev q0k15 : Array Bool := #[false, false, false, false, false, false, false, false, false, false]
abbrev q1k15 : Array Bool := #[true, true, true, true, true, true, true, true, true, false]
abbrev q2k15 : Array Bool := #[true, true, true, true, true, true, true, true, true, true]
abbrev q3k15 : Array Bool := #[false, false, false, false, false, false, false, false, false, false, false]
abbrev q4k15 : Array Bool := #[true, true, true, true, true, true, true, true, false, false, false]
abbrev q5k15 : Array Bool := #[true, true, true, true, true, true, true, true, true, false, false]
abbrev q6k15 : Array Bool := #[true, true, true, true, true, true, true, true, true, true, true]
set_option maxHeartbeats 8000000 in
set_option maxRecDepth 100000 in
theorem clinkerref03_Decode.calls (k : Nat) (a0 : ByteArray) (a1 : ByteArray) (r1 : Int) (r2 : Int) (r3 : List Int) (r4 : List Int) (r5 : Int) (w : World) (h : clinkerref03_Decode.f k a0 a1 = some (r1, r2, r3, r4, r5)) :
  Calls Try.prog 43 #[.string a0, .string a1] w fun e w' => ∃ v2_ v3_ : Value, e = .returned (.tuple #[.agg #[.int .i64 r1, .int .i64 r2, v2_, v3_], .int .i64 r5]) ∧ Kd.R (Kd.int .i64) 3 w' w.heap.size (fun k_ => some k_ ≠ (v3_ : Value).ownBlock) v2_ r3 ∧ Kd.R (Kd.int .i64) 3 w' w.heap.size (fun k_ => some k_ ≠ (v2_ : Value).ownBlock) v3_ r4 ∧ Below w.heap.size w w' := by
 have hu42 := Try.underlying42
 have HB := Aside0.mk (Below.refl w.heap.size w)
 have H : ((clinkerref02_Unpack.f k a0).bind fun bt246 => ((clinkerref02_Unpack.f k bt246.2.1).bind fun bt251 => ((clinkerref02_Unpack.f k bt251.2.1).bind fun bt256 => (if bt246.2.2 = 0 then (if bt251.2.2 = 0 then (if bt256.2.2 = 0 then (clinkerref03_Decode.j0 k a0 a1 bt246.1 bt251.1 bt256.1 ((bt246.1.length : Int) != 2)) else (clinkerref03_Decode.j0 k a0 a1 bt246.1 bt251.1 bt256.1 true)) else (clinkerref03_Decode.j0 k a0 a1 bt246.1 bt251.1 bt256.1 true)) else (clinkerref03_Decode.j0 k a0 a1 bt246.1 bt251.1 bt256.1 true))))) = some (r1, r2, r3, r4, r5) := h
 clear h
 replace H := Option.bind_eq_some_iff.mp H
 obtain ⟨⟨t246, t247, t248⟩, A30, H⟩ := H
 replace H : ((clinkerref02_Unpack.f k t247).bind fun bt251 => ((clinkerref02_Unpack.f k bt251.2.1).bind fun bt256 => (if t248 = 0 then (if bt251.2.2 = 0 then (if bt256.2.2 = 0 then (clinkerref03_Decode.j0 k a0 a1 t246 bt251.1 bt256.1 ((t246.length : Int) != 2)) else (clinkerref03_Decode.j0 k a0 a1 t246 bt251.1 bt256.1 true)) else (clinkerref03_Decode.j0 k a0 a1 t246 bt251.1 bt256.1 true)) else (clinkerref03_Decode.j0 k a0 a1 t246 bt251.1 bt256.1 true)))) = some (r1, r2, r3, r4, r5) := H
 have A3 := Aside0.mk A30
 clear A30
 replace H := Option.bind_eq_some_iff.mp H
 obtain ⟨⟨t251, t252, t253⟩, A40, H⟩ := H
 replace H : ((clinkerref02_Unpack.f k t252).bind fun bt256 => (if t248 = 0 then (if t253 = 0 then (if bt256.2.2 = 0 then (clinkerref03_Decode.j0 k a0 a1 t246 t251 bt256.1 ((t246.length : Int) != 2)) else (clinkerref03_Decode.j0 k a0 a1 t246 t251 bt256.1 true)) else (clinkerref03_Decode.j0 k a0 a1 t246 t251 bt256.1 true)) else (clinkerref03_Decode.j0 k a0 a1 t246 t251 bt256.1 true))) = some (r1, r2, r3, r4, r5) := H
 have A4 := Aside0.mk A40
 clear A40
 replace H := Option.bind_eq_some_iff.mp H
 obtain ⟨⟨t256, t257, t258⟩, A50, H⟩ := H
 replace H : (if t248 = 0 then (if t253 = 0 then (if t258 = 0 then (clinkerref03_Decode.j0 k a0 a1 t246 t251 t256 ((t246.length : Int) != 2)) else (clinkerref03_Decode.j0 k a0 a1 t246 t251 t256 true)) else (clinkerref03_Decode.j0 k a0 a1 t246 t251 t256 true)) else (clinkerref03_Decode.j0 k a0 a1 t246 t251 t256 true)) = some (r1, r2, r3, r4, r5) := H
 have A5 := Aside0.mk A50
 clear A50
 have HC6 := Aside0.mk H
 clear H
 go_enter Try.func43, Try.ntmps43
 go_upto_region 4 with (first | ((with_reducible refine gate_dst (N := 4) rfl ?_); (try (refine gate_guard (by rfl) ?_; dsimp only)); refine box_event ?hg (N := 4) ?hd (cs := #[.int .i64 0, .int .i64 0, .slice none 0 0, .slice none 0 0]) (t := 42) ?hr ?_; (case hd => rfl); (case hg => rfl); (case hr => first | (go_simp; done) | (go_simp; rfl)); intro gb245 hg w7 hbox hb; have BK245 := Aside0.mk (hbox); have GW245 := Aside0.mk ((bz hg : w.heap.size ≤ gb245)); replace HB := Aside0.mk (bst hb); have GE245 := GW245; clear hb hbox hg) | ((with_reducible refine gate_callee (f := 49) rfl ?_); refine goesL_ (some 20) rfl rfl Try.func49 (by kernel_rfl) rfl #[.string a0] rfl (by (try simp only [List.map_toArray, List.map_cons, List.map_nil]); first | done | rfl | (simp only [List.length_drop, List.length_take]; rfl)) ?_; (with_reducible refine (clinkerref02_Unpack.calls k a0 t246 t247 t248 _ A3.out).mono ?_); rintro e w8 ⟨v249, rfl, ho0, hb⟩; refine ⟨_, rfl, ?_⟩; have HO250 := Aside0.mk (Kd.R_lower ho0 bsz); replace BK245 := Aside0.mk (bb BK245.out hb); replace HB := Aside0.mk (bst hb); (try clear hb); (try clear hb2); (try clear hk); (try clear hi); (try clear ho0)) | ((with_reducible refine gate_callee (f := 49) rfl ?_); refine goesL_ (some 26) rfl rfl Try.func49 (by kernel_rfl) rfl #[.string t247] rfl (by (try simp only [List.map_toArray, List.map_cons, List.map_nil]); first | done | rfl | (simp only [List.length_drop, List.length_take]; rfl)) ?_; (with_reducible refine (clinkerref02_Unpack.calls k t247 t251 t252 t253 _ A4.out).mono ?_); rintro e w9 ⟨v254, rfl, ho0, hb⟩; refine ⟨_, rfl, ?_⟩; have HO255 := Aside0.mk (Kd.R_lower (Kd.R_new' ho0 (Kd.R_lt (mR HO250.out))) bsz); replace HO250 := Aside0.mk (Kd.R_elder' (mR HO250.out) (Kd.R_base ho0) hb); replace BK245 := Aside0.mk (bb BK245.out hb); replace HB := Aside0.mk (bst hb); (try clear hb); (try clear hb2); (try clear hk); (try clear hi); (try clear ho0)) | ((with_reducible refine gate_callee (f := 49) rfl ?_); refine goesL_ (some 32) rfl rfl Try.func49 (by kernel_rfl) rfl #[.string t252] rfl (by (try simp only [List.map_toArray, List.map_cons, List.map_nil]); first | done | rfl | (simp only [List.length_drop, List.length_take]; rfl)) ?_; (with_reducible refine (clinkerref02_Unpack.calls k t252 t256 t257 t258 _ A5.out).mono ?_); rintro e w10 ⟨v259, rfl, ho0, hb⟩; refine ⟨_, rfl, ?_⟩; have HO260 := Aside0.mk (Kd.R_lower (Kd.R_new' (Kd.R_new' ho0 (Kd.R_lt (mR HO250.out))) (Kd.R_lt (mR HO255.out))) bsz); replace HO250 := Aside0.mk (Kd.R_elder' (mR HO250.out) (Kd.R_base ho0) hb); replace HO255 := Aside0.mk (Kd.R_elder' (mR HO255.out) (Kd.R_base ho0) hb); replace BK245 := Aside0.mk (bb BK245.out hb); replace HB := Aside0.mk (bst hb); (try clear hb); (try clear hb2); (try clear hk); (try clear hi); (try clear ho0)))
 (try simp only [Act.put, List.setIfInBounds_toArray, List.set_cons_zero, List.set_cons_succ])
 go_cut [50] (fun v50 wc => ∃ (kq : Nat) (x50_5 : Bool), v50 = .bool x50_5 ∧ Aside0 (clinkerref03_Decode.j0 kq a0 a1 t246 t251 t256 x50_5 = some (r1, r2, r3, r4, r5)) ∧ Aside0 (kq ≤ k) ∧ Aside0 (Kd.R (Kd.int .i64) 3 wc w.heap.size (fun k_ => some k_ ≠ (v254 : Value).ownBlock ∧ some k_ ≠ (v259 : Value).ownBlock) v249 t246) ∧ Aside0 (Kd.R (Kd.int .i64) 3 wc w.heap.size (fun k_ => some k_ ≠ (v249 : Value).ownBlock ∧ some k_ ≠ (v259 : Value).ownBlock) v254 t251) ∧ Aside0 (Kd.R (Kd.int .i64) 3 wc w.heap.size (fun k_ => some k_ ≠ (v249 : Value).ownBlock ∧ some k_ ≠ (v254 : Value).ownBlock) v259 t256) ∧ Aside0 (wc.heap[gb245]? = some (.cells #[.int .i64 0, .int .i64 0, (.slice none 0 0), (.slice none 0 0)] 42 (0, 0))) ∧ Aside0 (Below w.heap.size w wc))
 case first =>
  have H := HC6.out
  clear HC6
  by_cases c11 : t248 = 0
  case neg =>
   rw [if_neg c11] at H
   have c11b0 : (t248 == 0) = false := beq_eq_false_iff_ne.mpr c11
   have c11b1 : (t248 != 0) = true := bne_iff_ne.mpr c11
   (first | rw [c11b0] | (simp only [i64_w, i32_w]; rw [c11b0]) | skip)
   have H' := Aside0.mk H
   clear H
   go_wp2
   go_meet
   case rel => exact ⟨_, (true), (by first | rfl | (simp; done) | (simp [*]; done)), H', ⟨by first | omega | exact Nat.le_refl _⟩, ⟨by (with_reducible repeat (first | apply rA | apply rN | apply rD)); exact Kd.R_mono HO250.out (fun _ hk => ⟨hk.1.2, hk.2⟩)⟩, ⟨by (with_reducible repeat (first | apply rA | apply rN | apply rD)); exact Kd.R_mono HO255.out (fun _ hk => ⟨hk.1.2, hk.2⟩)⟩, ⟨by (with_reducible repeat (first | apply rA | apply rN | apply rD)); exact Kd.R_mono HO260.out (fun _ hk => ⟨hk.1.2, hk.2⟩)⟩, ⟨mB BK245.out⟩, ⟨mH⟩⟩
  rw [if_pos c11] at H
  have c11b0 : (t248 == 0) = true := beq_iff_eq.mpr c11
  have c11b1 : (t248 != 0) = false := bne_eq_false_iff_eq.mpr c11
  clear c11
  (first | rw [c11b0] | (simp only [i64_w, i32_w]; rw [c11b0]) | skip)
  by_cases c12 : t253 = 0
  case neg =>
   rw [if_neg c12] at H
   have c12b0 : (t253 == 0) = false := beq_eq_false_iff_ne.mpr c12
   have c12b1 : (t253 != 0) = true := bne_iff_ne.mpr c12
   have H' := Aside0.mk H
   clear H
   go_wp2
   go_meet
   case rel => exact ⟨_, (true), (by first | rfl | (simp; done) | (simp [*]; done)), H', ⟨by first | omega | exact Nat.le_refl _⟩, ⟨by (with_reducible repeat (first | apply rA | apply rN | apply rD)); exact Kd.R_mono HO250.out (fun _ hk => ⟨hk.1.2, hk.2⟩)⟩, ⟨by (with_reducible repeat (first | apply rA | apply rN | apply rD)); exact Kd.R_mono HO255.out (fun _ hk => ⟨hk.1.2, hk.2⟩)⟩, ⟨by (with_reducible repeat (first | apply rA | apply rN | apply rD)); exact Kd.R_mono HO260.out (fun _ hk => ⟨hk.1.2, hk.2⟩)⟩, ⟨mB BK245.out⟩, ⟨mH⟩⟩
  rw [if_pos c12] at H
  have c12b0 : (t253 == 0) = true := beq_iff_eq.mpr c12
  have c12b1 : (t253 != 0) = false := bne_eq_false_iff_eq.mpr c12
  clear c12
  by_cases c13 : t258 = 0
  case neg =>
   rw [if_neg c13] at H
   have c13b0 : (t258 == 0) = false := beq_eq_false_iff_ne.mpr c13
   have c13b1 : (t258 != 0) = true := bne_iff_ne.mpr c13
   have H' := Aside0.mk H
   clear H
   go_wp2
   go_meet
   case rel => exact ⟨_, (true), (by first | rfl | (simp; done) | (simp [*]; done)), H', ⟨by first | omega | exact Nat.le_refl _⟩, ⟨by (with_reducible repeat (first | apply rA | apply rN | apply rD)); exact Kd.R_mono HO250.out (fun _ hk => ⟨hk.1.2, hk.2⟩)⟩, ⟨by (with_reducible repeat (first | apply rA | apply rN | apply rD)); exact Kd.R_mono HO255.out (fun _ hk => ⟨hk.1.2, hk.2⟩)⟩, ⟨by (with_reducible repeat (first | apply rA | apply rN | apply rD)); exact Kd.R_mono HO260.out (fun _ hk => ⟨hk.1.2, hk.2⟩)⟩, ⟨mB BK245.out⟩, ⟨mH⟩⟩
  rw [if_pos c13] at H
  have c13b0 : (t258 == 0) = true := beq_iff_eq.mpr c13
  have c13b1 : (t258 != 0) = false := bne_eq_false_iff_eq.mpr c13
  clear c13
  have H' := Aside0.mk H
  clear H
  obtain ⟨Ao14, co14, eo14⟩ := Kd.R_slice HO250.out
  subst eo14
  go_wp2
  go_meet
  case rel => exact ⟨_, (((t246.length : Int) != 2)), (by first | rfl | (simp; done) | (simp [*]; done)), H', ⟨by first | omega | exact Nat.le_refl _⟩, ⟨by (with_reducible repeat (first | apply rA | apply rN | apply rD)); exact Kd.R_mono HO250.out (fun _ hk => ⟨hk.1.2, hk.2⟩)⟩, ⟨by (with_reducible repeat (first | apply rA | apply rN | apply rD)); exact Kd.R_mono HO255.out (fun _ hk => ⟨hk.1.2, hk.2⟩)⟩, ⟨by (with_reducible repeat (first | apply rA | apply rN | apply rD)); exact Kd.R_mono HO260.out (fun _ hk => ⟨hk.1.2, hk.2⟩)⟩, ⟨mB BK245.out⟩, ⟨mH⟩⟩
 case rest =>
  clear HC6
  try clear c1
  try clear p2
  try clear c4
  try clear c11
  try clear c11b0
  try clear c11b1
  try clear c12
  try clear c12b0
  try clear c12b1
  try clear c13
  try clear c13b0
  try clear c13b1
  obtain ⟨kq, x50_5, rfl, HA, HJ5, HO_6, HO_9, HO_11, BK245, HB⟩ := hcut
  cases kq with
  | zero => exact absurd HA.out (by simp [clinkerref03_Decode.j0])
  | succ kj5 =>
   have H := HA.out
   clear HA
   simp only [clinkerref03_Decode.j0] at H
   by_cases c15 : x50_5 = true
   case pos =>
    subst c15
    have H1 : (some (0, 0, ([] : List Int), ([] : List Int), 30)) = some (r1, r2, r3, r4, r5) := by rw [if_pos rfl] at H; exact H
    clear H
    have H := H1
    clear H1
    simp only [Option.some.injEq, Prod.mk.injEq] at H
    obtain ⟨rfl, rfl, rfl, rfl, rfl⟩ := H
    obtain ⟨hcz16_0, hcz16_1, hcz16_2, hcz16_3, hfz16_0, hfz16_1, hfz16_2, hfz16_3⟩ := kc4 BK245.out
    go_wp2
    refine bodyPost_ret (results_ct rfl _ _ gb245 42 #[.int .i64 0, .int .i64 0, .slice none 0 0, .slice none 0 0] (0, 0) _ rfl (by (with_reducible repeat (first | apply bN | apply bD | apply bA)); refine blk_put (cs := #[.int .i64 0, .int .i64 0, .slice none 0 0, .slice none 0 0]) ?_ 3 _ rfl; (with_reducible repeat (first | apply bN | apply bD | apply bA)); refine blk_put (cs := #[.int .i64 0, .int .i64 0, .slice none 0 0, .slice none 0 0]) ?_ 2 _ rfl; (with_reducible repeat (first | apply bN | apply bD | apply bA)); refine blk_put (cs := #[.int .i64 0, .int .i64 0, .slice none 0 0, .slice none 0 0]) ?_ 1 _ rfl; (with_reducible repeat (first | apply bN | apply bD | apply bA)); refine blk_put (cs := #[.int .i64 0, .int .i64 0, .slice none 0 0, .slice none 0 0]) ?_ 0 _ rfl; (with_reducible repeat (first | apply bN | apply bD | apply bA)); exact BK245.out) Try.underlying42 rfl (by kernel_rfl)) rfl ?_
    exact ⟨_, _, by first | rfl | (simp [errW_none, errW_some] <;> rfl) | (simp [*, errW_none, errW_some] <;> rfl), by first | exact Kd.R_nil _ _ _ _ _ | exact Kd.N_nil _ _ _ _ _ | exact Kd.V_nil _ _ _ _ _ | exact Kd.Q_nil _ _ _ _ _ | exact Kd.S_nil _ _ _ _ _, by first | exact Kd.R_nil _ _ _ _ _ | exact Kd.N_nil _ _ _ _ _ | exact Kd.V_nil _ _ _ _ _ | exact Kd.Q_nil _ _ _ _ _ | exact Kd.S_nil _ _ _ _ _, by repeat (first | exact HB.out | apply lA | apply lN | apply lD | refine lS ?_ GE245.out)⟩
   replace c15 := Bool.eq_false_iff.mpr c15
   subst c15
   have H1 : (if 0 < (t246.length : Int) then (if 1 < (t246.length : Int) then (clinkerref03_Decode.l0 kj5 a0 a1 t256 0 (rd t246 0) (rd t246 1) t251 ([] : List Int)) else (none)) else (none)) = some (r1, r2, r3, r4, r5) := by rw [if_neg (show ¬ (false = true) by decide)] at H; exact H
   clear H
   have H := H1
   clear H1
   by_cases c17 : 0 < (t246.length : Int)
   case neg =>
    rw [if_neg c17] at H
    exact absurd H (by simp)
   rw [if_pos c17] at H
   have c17b0 : decide (0 < (t246.length : Int)) = true := decide_eq_true c17
   have c17b1 : decide (0 < t246.length) = true := decide_eq_true (by omega)
   clear c17
   by_cases c18 : 1 < (t246.length : Int)
   case neg =>
    rw [if_neg c18] at H
    exact absurd H (by simp)
   rw [if_pos c18] at H
   have c18b0 : decide (1 < (t246.length : Int)) = true := decide_eq_true c18
   have c18b1 : decide (1 < t246.length) = true := decide_eq_true (by omega)
   clear c18
   have H' := Aside0.mk H
   clear H
   try go_wp2
   replace HO_6 := Aside0.mk (Kd.R_drew HO_6.out)
   replace HO_9 := Aside0.mk (Kd.R_drew HO_9.out)
   replace HO_11 := Aside0.mk (Kd.R_drew HO_11.out)
   replace BK245 := Aside0.mk (bD BK245.out)
   replace HB := Aside0.mk (lD HB.out)
   obtain ⟨Ao20, co20, eo20⟩ := Kd.R_slice HO_6.out
   (first | subst eo20 | (injection eo20 with f1_ f2_ f3_; have f4_ := f1_.symm; have f5_ := f3_.symm; clear f1_ f2_ f3_; subst f4_; subst f5_))
   have p261 : 0 ≤ (0 : Int) := (by omega)
   have q261 : 0 < (t246.length : Int) := of_decide_eq_true (by first | (with_reducible assumption) | assumption)
   obtain ⟨ad261, e261, hx261_0⟩ := Kd.at_int (Kd.R_reads' HO_6.out).2.2 0 p261 q261
   cases e261
   have qi261 : (0 < t246.length) = True := eq_true (by omega)
   (try rw [show ((0 : Int)).toNat = 0 from rfl] at hx261_0)
   (try rw [Addr.add_zero'] at hx261_0)
   replace p261 := eq_true p261
   replace q261 := eq_true q261
   have p262 : 0 ≤ (1 : Int) := (by omega)
   have q262 : 1 < (t246.length : Int) := of_decide_eq_true (by first | (with_reducible assumption) | assumption)
   obtain ⟨ad262, e262, hx262_0⟩ := Kd.at_int (Kd.R_reads' HO_6.out).2.2 1 p262 q262
   obtain rfl : ad261 = ad262 := (by injection e262)
   (try simp only [show (1 : Int).toNat = 1 from rfl, Nat.reduceMul, Nat.reduceEqDiff, Go.Addr.add, ↓reduceIte] at hx262_0)
   have qi262 : (1 < t246.length) = True := eq_true (by omega)
   (try rw [show ((1 : Int)).toNat = 1 from rfl] at hx262_0)
   replace p262 := eq_true p262
   replace q262 := eq_true q262
   obtain ⟨Ao21, co21, eo21⟩ := Kd.R_slice HO_9.out
   (first | subst eo21 | (injection eo21 with f1_ f2_ f3_; have f4_ := f1_.symm; have f5_ := f3_.symm; clear f1_ f2_ f3_; subst f4_; subst f5_))
   refine start_ (n := 10) (S := fun w' => w'.cell? ad261 = some (.int .i64 (rd t246 0)) ∧ w'.cell? ⟨ad261.block, ad261.off + 1, none⟩ = some (.int .i64 (rd t246 1))) (ds := []) q0k15 (by kernel_rfl) rfl rfl ⟨hx261_0, hx262_0⟩ (fun hHeld => ?_); refine with_tabW clinkerref03_Decode.tab6 clinkerref03_Decode.bits6 (fun HT_ HW_ => ?_)
   generalize wc.drew = w19 at HO_6 HO_9 HO_11 BK245 HB hx261_0 hx262_0 hHeld ⊢
   refine pa 0 (some 52) ?_
   refine pa 1 (some 53) ?_
   refine pa 3 (some 55) ?_
   refine pa 4 (some 56) ?_
   refine pa 6 (some 58) ?_
   refine ta 2 (some 54) hHeld ?_
   refine ta 5 (some 57) hHeld ?_
   refine pa 7 (some 59) ?_
   refine one_ (i := 8) (N := some 14) q1k15 rfl rfl (one_of HT_.out (by kernel_rfl)) (by decide) (fun K hK => ?_)
   refine box_step ?hg (N := 14) ?hd (cs := #[.int .i64 0, .int .i64 0, .slice none 0 0, .slice none 0 0]) (t := 42) ?hr ?_; (case hd => rfl); (case hg => rfl); (case hr => first | (go_simp; done) | (go_simp; rfl))
   intro gb263 hg w22 hbox hb
   have HS0_ := (hb.cell (World.block_lt_of_cell? _ _ (hHeld.1))).trans (hHeld.1)
   have HS1_ := (hb.cell (World.block_lt_of_cell? _ _ (hHeld.2))).trans (hHeld.2)
   replace HO_6 := Aside0.mk (Kd.R_below (mR HO_6.out) hb)
   replace HO_9 := Aside0.mk (Kd.R_below (mR HO_9.out) hb)
   replace HO_11 := Aside0.mk (Kd.R_below (mR HO_11.out) hb)
   have BK263 := Aside0.mk (hbox)
   have GW263 := Aside0.mk ((bz hg : w.heap.size ≤ gb263))
   replace HB := Aside0.mk (bst hb)
   have GE263 := GW263
   have NB245_263 := Aside0.mk ((bl BK245.out hg : gb245 ≠ gb263))
   replace BK245 := Aside0.mk (bb BK245.out hb)
   have NB263_245 := Aside0.mk NB245_263.out.symm
   clear hb hbox hg
   refine hK.out _ _ ⟨HS0_, HS1_⟩ (fun hHeld => ?_)
   clear hK K
   refine na (some 14) ?_
   refine one_ (i := 9) (N := none) q2k15 rfl rfl (one_of HT_.out (by kernel_rfl)) (by decide) (fun K hK => ?_)
   have hs23 : w22.cell? ⟨gb263, 0, none⟩ = some (.int .i64 0) := (blk_cell BK263.out 0).trans rfl
   have hfs23 := blk_frozen BK263.out 0
   have hns23_0 := NB245_263.out
   have hms23_0 := NB263_245.out
   have hs24 : w22.cell? ⟨gb263, 1, none⟩ = some (.int .i64 0) := (blk_cell BK263.out 1).trans rfl
   have hfs24 := blk_frozen BK263.out 1
   have hns24_0 := NB245_263.out
   have hms24_0 := NB263_245.out
   have hs25 : w22.cell? ⟨gb263, 2, none⟩ = some (.slice none 0 0) := (blk_cell BK263.out 2).trans rfl
   have hfs25 := blk_frozen BK263.out 2
   have hns25_0 := NB245_263.out
   have hms25_0 := NB263_245.out
   have hs26 : w22.cell? ⟨gb263, 3, none⟩ = some (.slice none 0 0) := (blk_cell BK263.out 3).trans rfl
   have hfs26 := blk_frozen BK263.out 3
   have hns26_0 := NB245_263.out
   have hms26_0 := NB263_245.out
   refine skip_ (w1 := ?_) (by rfl) rfl ?_ ?_; rotate_left; (focus go_simp; rfl)
   refine hK.out _ _ ⟨((cell_far (p := ⟨gb263, _, none⟩) (by first | exact Kd.own_blk (Kd.R_ne HO_6.out BK263.out (by decide)) | (rw [add_block]; exact Kd.own_blk (Kd.R_ne HO_6.out BK263.out (by decide))) | (show (Addr.add _ _).block ≠ _; rw [add_block]; exact Kd.own_blk (Kd.R_ne HO_6.out BK263.out (by decide))) | (dsimp only; exact Kd.own_blk (Kd.R_ne HO_6.out BK263.out (by decide)))) _).trans (((cell_far (p := ⟨gb263, _, none⟩) (by first | exact Kd.own_blk (Kd.R_ne HO_6.out BK263.out (by decide)) | (rw [add_block]; exact Kd.own_blk (Kd.R_ne HO_6.out BK263.out (by decide))) | (show (Addr.add _ _).block ≠ _; rw [add_block]; exact Kd.own_blk (Kd.R_ne HO_6.out BK263.out (by decide))) | (dsimp only; exact Kd.own_blk (Kd.R_ne HO_6.out BK263.out (by decide)))) _).trans (((cell_far (p := ⟨gb263, _, none⟩) (by first | exact Kd.own_blk (Kd.R_ne HO_6.out BK263.out (by decide)) | (rw [add_block]; exact Kd.own_blk (Kd.R_ne HO_6.out BK263.out (by decide))) | (show (Addr.add _ _).block ≠ _; rw [add_block]; exact Kd.own_blk (Kd.R_ne HO_6.out BK263.out (by decide))) | (dsimp only; exact Kd.own_blk (Kd.R_ne HO_6.out BK263.out (by decide)))) _).trans (((cell_far (p := ⟨gb263, _, none⟩) (by first | exact Kd.own_blk (Kd.R_ne HO_6.out BK263.out (by decide)) | (rw [add_block]; exact Kd.own_blk (Kd.R_ne HO_6.out BK263.out (by decide))) | (show (Addr.add _ _).block ≠ _; rw [add_block]; exact Kd.own_blk (Kd.R_ne HO_6.out BK263.out (by decide))) | (dsimp only; exact Kd.own_blk (Kd.R_ne HO_6.out BK263.out (by decide)))) _).trans (hHeld.1)))))))), ((cell_far (p := ⟨gb263, _, none⟩) (by first | exact Kd.own_blk (Kd.R_ne HO_6.out BK263.out (by decide)) | (rw [add_block]; exact Kd.own_blk (Kd.R_ne HO_6.out BK263.out (by decide))) | (show (Addr.add _ _).block ≠ _; rw [add_block]; exact Kd.own_blk (Kd.R_ne HO_6.out BK263.out (by decide))) | (dsimp only; exact Kd.own_blk (Kd.R_ne HO_6.out BK263.out (by decide)))) _).trans (((cell_far (p := ⟨gb263, _, none⟩) (by first | exact Kd.own_blk (Kd.R_ne HO_6.out BK263.out (by decide)) | (rw [add_block]; exact Kd.own_blk (Kd.R_ne HO_6.out BK263.out (by decide))) | (show (Addr.add _ _).block ≠ _; rw [add_block]; exact Kd.own_blk (Kd.R_ne HO_6.out BK263.out (by decide))) | (dsimp only; exact Kd.own_blk (Kd.R_ne HO_6.out BK263.out (by decide)))) _).trans (((cell_far (p := ⟨gb263, _, none⟩) (by first | exact Kd.own_blk (Kd.R_ne HO_6.out BK263.out (by decide)) | (rw [add_block]; exact Kd.own_blk (Kd.R_ne HO_6.out BK263.out (by decide))) | (show (Addr.add _ _).block ≠ _; rw [add_block]; exact Kd.own_blk (Kd.R_ne HO_6.out BK263.out (by decide))) | (dsimp only; exact Kd.own_blk (Kd.R_ne HO_6.out BK263.out (by decide)))) _).trans (((cell_far (p := ⟨gb263, _, none⟩) (by first | exact Kd.own_blk (Kd.R_ne HO_6.out BK263.out (by decide)) | (rw [add_block]; exact Kd.own_blk (Kd.R_ne HO_6.out BK263.out (by decide))) | (show (Addr.add _ _).block ≠ _; rw [add_block]; exact Kd.own_blk (Kd.R_ne HO_6.out BK263.out (by decide))) | (dsimp only; exact Kd.own_blk (Kd.R_ne HO_6.out BK263.out (by decide)))) _).trans (hHeld.2))))))))⟩ (fun hHeld => ?_)
   clear hK K
   refine done_ (done_of HT_.out (by kernel_rfl)) ?_
   try go_wp2
   go_loopg [15] kj5 (fun kq v15 w' => ∃ (x15_2 : Int) (x264003_2 : List Int) (u264003 : Value), v15 = .int .i64 x15_2 ∧ Aside0 (clinkerref03_Decode.l0 kq a0 a1 t256 x15_2 (rd t246 0) (rd t246 1) t251 x264003_2 = some (r1, r2, r3, r4, r5)) ∧ Aside0 (kq ≤ kj5) ∧ Aside0 (Kd.R (Kd.int .i64) 3 w' w.heap.size (fun k_ => some k_ ≠ ((.slice Ao21 t251.length co21) : Value).ownBlock ∧ some k_ ≠ (u264003 : Value).ownBlock) v259 t256) ∧ Aside0 (Kd.R (Kd.int .i64) 3 w' w.heap.size (fun k_ => some k_ ≠ (v259 : Value).ownBlock ∧ some k_ ≠ (u264003 : Value).ownBlock) (.slice Ao21 t251.length co21) t251) ∧ Aside0 (Kd.R (Kd.int .i64) 3 w' w.heap.size (fun k_ => some k_ ≠ (v259 : Value).ownBlock ∧ some k_ ≠ ((.slice Ao21 t251.length co21) : Value).ownBlock) u264003 x264003_2) ∧ Aside0 (w'.heap[gb245]? = some (.cells #[.int .i64 0, .int .i64 0, (.slice none 0 0), (.slice none 0 0)] 42 (0, 0))) ∧ Aside0 (w'.heap[gb263]? = some (.cells #[.int .i64 (rd t246 0), .int .i64 (rd t246 1), (.slice Ao21 t251.length co21), u264003] 42 (0, 0))) ∧ Aside0 (Below w.heap.size w w'))
   case atStart => exact ⟨(0), (([] : List Int)), (.slice none 0 0), (by first | rfl | (simp; done) | (simp [*]; done)), H', ⟨Nat.le_refl _⟩, ⟨by (with_reducible repeat (first | apply rA | apply rN | apply rD)); exact Kd.R_mono (Kd.R_far (p := ⟨gb263, 3, none⟩) (Kd.R_far (p := ⟨gb263, 2, none⟩) (Kd.R_far (p := ⟨gb263, 1, none⟩) (Kd.R_far (p := ⟨gb263, 0, none⟩) (Kd.R_types HO_11.out BK263.out (by decide)) (fun _ hk => hk.2) (.int .i64 (rd t246 0))) (fun _ hk => hk.2) (.int .i64 (rd t246 1))) (fun _ hk => hk.2) _) (fun _ hk => hk.2) (.slice none 0 0)) (fun _ hk => ⟨hk.1.2, (by simp [Value.ownBlock])⟩)⟩, ⟨by (with_reducible repeat (first | apply rA | apply rN | apply rD)); exact Kd.R_mono (Kd.R_far (p := ⟨gb263, 3, none⟩) (Kd.R_far (p := ⟨gb263, 2, none⟩) (Kd.R_far (p := ⟨gb263, 1, none⟩) (Kd.R_far (p := ⟨gb263, 0, none⟩) (Kd.R_types HO_9.out BK263.out (by decide)) (fun _ hk => hk.2) (.int .i64 (rd t246 0))) (fun _ hk => hk.2) (.int .i64 (rd t246 1))) (fun _ hk => hk.2) _) (fun _ hk => hk.2) (.slice none 0 0)) (fun _ hk => ⟨hk.1.2, (by simp [Value.ownBlock])⟩)⟩, ⟨by first | exact Kd.R_nil _ _ _ _ _ | exact Kd.N_nil _ _ _ _ _ | exact Kd.V_nil _ _ _ _ _ | exact Kd.Q_nil _ _ _ _ _ | exact Kd.S_nil _ _ _ _ _⟩, ⟨by (with_reducible repeat (first | apply bN | apply bD | apply bA)); refine blk_far ?_ NB245_263.out _; (with_reducible repeat (first | apply bN | apply bD | apply bA)); refine blk_far ?_ NB245_263.out _; (with_reducible repeat (first | apply bN | apply bD | apply bA)); refine blk_far ?_ NB245_263.out _; (with_reducible repeat (first | apply bN | apply bD | apply bA)); refine blk_far ?_ NB245_263.out _; (with_reducible repeat (first | apply bN | apply bD | apply bA)); exact BK245.out⟩, ⟨by (with_reducible repeat (first | apply bN | apply bD | apply bA)); refine blk_put (cs := #[.int .i64 (rd t246 0), .int .i64 (rd t246 1), .slice Ao21 t251.length co21, .slice none 0 0]) ?_ 3 _ rfl; (with_reducible repeat (first | apply bN | apply bD | apply bA)); refine blk_put (cs := #[.int .i64 (rd t246 0), .int .i64 (rd t246 1), .slice none 0 0, .slice none 0 0]) ?_ 2 _ rfl; (with_reducible repeat (first | apply bN | apply bD | apply bA)); refine blk_put (cs := #[.int .i64 (rd t246 0), .int .i64 0, .slice none 0 0, .slice none 0 0]) ?_ 1 _ rfl; (with_reducible repeat (first | apply bN | apply bD | apply bA)); refine blk_put (cs := #[.int .i64 0, .int .i64 0, .slice none 0 0, .slice none 0 0]) ?_ 0 _ rfl; (with_reducible repeat (first | apply bN | apply bD | apply bA)); exact BK263.out⟩, ⟨mH⟩⟩
   case round =>
    clear H'
    try clear c1
    try clear p2
    try clear q2k15
    try clear hx2
    try clear qi2
    try clear c4
    try clear c11
    try clear c11b0
    try clear c11b1
    try clear c12
    try clear c12b0
    try clear c12b1
    try clear c13
    try clear c13b0
    try clear c13b1
    try clear c15
    try clear c17
    try clear c17b0
    try clear c17b1
    try clear c18
    try clear c18b0
    try clear c18b1
    try clear p26
    try clear q26
    try clear hx26
    try clear qi26
    try clear hcz16_0
    try clear hcz16_1
    try clear hcz16_2
    try clear hcz16_3
    try clear hfz16_0
    try clear hfz16_1
    try clear hfz16_2
    try clear hfz16_3
    try clear hx261_0
    try clear hx262_0
    try clear p2
    try clear p261
    try clear p262
    try clear q261
    try clear q262
    obtain ⟨x15_2, x264003_2, u264003, rfl, HA, HK2, HO_11, HO_264002, HO_264003, BK245, BK263, HB⟩ := hrel
    cases gk with
    | zero => exact absurd HA.out (by simp [clinkerref03_Decode.l0])
    | succ k2 =>
     have H := HA.out
     clear HA
     simp only [clinkerref03_Decode.l0] at H
     by_cases c27 : x15_2 < (t256.length : Int)
     case pos =>
      rw [if_pos c27] at H
      have c27b0 : decide (x15_2 < (t256.length : Int)) = true := decide_eq_true c27
      clear c27
      by_cases c28 : 0 ≤ x15_2
      case neg =>
       rw [if_neg c28] at H
       exact absurd H (by simp)
      rw [if_pos c28] at H
      have c28b0 : decide (0 ≤ x15_2) = true := decide_eq_true c28
      clear c28
      by_cases c29 : x264003_2.length < 17592186044416
      case neg =>
       rw [if_neg c29] at H
       exact absurd H (by simp)
      rw [if_pos c29] at H
      have LMc29 := Aside0.mk c29
      clear c29
      obtain ⟨y265, hy265⟩ : ∃ y_ : List Int, y_ = (x264003_2 ++ [wrap64 ((rd t256 x15_2) - 1)]) := ⟨_, rfl⟩
      replace H : (clinkerref03_Decode.l0 k2 a0 a1 t256 (wrap64 (x15_2 + 1)) (rd t246 0) (rd t246 1) t251 y265) = some (r1, r2, r3, r4, r5) := by first | (rw [hy265]; with_reducible exact H) | (have H2_ := (Option.bind_some _ _).symm.trans H; rw [hy265]; with_reducible exact H2_) | (have H2_ := (Option.bind_some _ _).symm.trans H; with_reducible exact H2_) | with_reducible exact H | (rw [hy265]; exact H) | exact H
      have Ny265 := Aside0.mk hy265
      clear hy265
      have H' := Aside0.mk H
      clear H
      obtain ⟨Ao30, co30, eo30⟩ := Kd.R_slice HO_11.out
      subst eo30
      try go_wp2
      replace HO_11 := Aside0.mk (Kd.R_drew HO_11.out)
      replace HO_264002 := Aside0.mk (Kd.R_drew HO_264002.out)
      replace HO_264003 := Aside0.mk (Kd.R_drew HO_264003.out)
      replace BK245 := Aside0.mk (bD BK245.out)
      replace BK263 := Aside0.mk (bD BK263.out)
      replace HB := Aside0.mk (lD HB.out)
      have p264 : 0 ≤ (x15_2 : Int) := of_decide_eq_true (by first | (with_reducible assumption) | assumption)
      have q264 : x15_2 < (t256.length : Int) := of_decide_eq_true (by first | (with_reducible assumption) | assumption)
      obtain ⟨ad264, e264, hx264_0⟩ := Kd.at_int (Kd.R_reads' HO_11.out).2.2 x15_2 p264 q264
      cases e264
      replace p264 := eq_true p264
      replace q264 := eq_true q264
      refine start_ (n := 11) (S := fun w' => w'.cell? ⟨gb263, 0, none⟩ = some (.int .i64 (rd t246 0)) ∧ w'.cell? ⟨gb263, 1, none⟩ = some (.int .i64 (rd t246 1)) ∧ w'.cell? ⟨gb263, 2, none⟩ = some (.slice Ao21 t251.length co21) ∧ w'.cell? ⟨gb263, 3, none⟩ = some (u264003) ∧ w'.cell? (ad264.add (x15_2).toNat) = some (.int .i64 (rd t256 x15_2))) (ds := [8, 10]) q3k15 (by kernel_rfl) rfl rfl ⟨(blk_cell BK263.out 0).trans rfl, (blk_cell BK263.out 1).trans rfl, (blk_cell BK263.out 2).trans rfl, (blk_cell BK263.out 3).trans rfl, hx264_0⟩ (fun hHeld => ?_); refine with_tabW clinkerref03_Decode.tab10 clinkerref03_Decode.bits10 (fun HT_ HW_ => ?_)
      generalize wr.drew = w31 at HO_11 HO_264002 HO_264003 BK245 BK263 HB hx264_0 hHeld ⊢
      refine pa 0 (some 66) ?_
      refine pa 2 (some 68) ?_
      refine pa 3 (some 69) ?_
      refine pa 4 (some 70) ?_
      refine ta 1 (some 67) hHeld ?_
      refine ta 5 (some 71) hHeld ?_
      refine pa 6 (some 72) ?_
      refine one_ (i := 7) (N := some 73) q4k15 rfl rfl (one_of HT_.out (by kernel_rfl)) (by decide) (fun K hK => ?_)
      refine value_ (w1 := ?_) (v := ?_) (by rfl) rfl ?_ ?_
      rotate_left 2
      ·
       go_simp
       constructor
       ·
        rfl
       ·
        rfl
      refine hK.out _ _ ⟨(blk_cell (bA BK263.out _) 0).trans rfl, (blk_cell (bA BK263.out _) 1).trans rfl, (blk_cell (bA BK263.out _) 2).trans rfl, (blk_cell (bA BK263.out _) 3).trans rfl, (World.cell?_alloc_lt _ _ _ (World.block_lt_of_cell? _ _ (hHeld.2.2.2.2))).trans (hHeld.2.2.2.2)⟩ (fun hHeld => ?_)
      clear hK K
      refine na (some 73) ?_
      refine last_ (i := 8) (N := some 74) q5k15 rfl rfl (one_of HT_.out (by kernel_rfl)) (by decide) (fun K hK => ?_)
      refine Kd.R_append_step (Kd.int .i64) (w0 := w) w.heap.size (by rfl) (.tmp 67) (.tmp 73) 22 3 (.int .i64 0) 8 rfl Try.underlying22 info3 rfl (by decide) (by omega) u264003 x264003_2 (wrap64 ((rd t256 x15_2) - 1)) [.int .i64 (wrap64 ((rd t256 x15_2) - 1))] (fun k_ => some k_ ≠ (.slice (some ad264) t256.length co30 : Value).ownBlock ∧ some k_ ≠ (.slice Ao21 t251.length co21 : Value).ownBlock) (fun _ => False) rfl rfl ?aP (fun _ hk => hk.elim) ?aF ?aO ?aB ?aS ?aL ?_
      (case aP => exact rfl)
      (case aB => exact (by repeat (first | (with_reducible first | exact HB.out | apply lA | apply lN | apply lD | refine lS ?_ GE245.out | refine lS ?_ GE263.out) | exact HB.out)))
      (case aF => exact (fun k_ hk => ⟨Kd.fresh' (Kd.R_lt (mR HO_11.out)) k_ hk, Kd.fresh' (Kd.R_lt (mR HO_264002.out)) k_ hk⟩))
      (case aO => exact (mR HO_264003.out))
      (case aS => exact bsz)
      (case aL => have := LMc29.out; omega)
      intro v266 w32 ho hb hg hat
      rw [← Ny265.out] at ho
      have n0_ := Aside0.mk (Kd.R_after (ok := (fun k_ => some k_ ≠ (.slice Ao21 t251.length co21 : Value).ownBlock)) (mR HO_11.out) hg hat)
      have n1_ := Aside0.mk (Kd.R_after (ok := (fun k_ => some k_ ≠ (.slice (some ad264) t256.length co30 : Value).ownBlock)) (mR HO_264002.out) hg hat)
      have n2_ := Aside0.mk (bg BK245.out hg (Kd.R_ne HO_264003.out BK245.out (by decide)))
      have n3_ := Aside0.mk (bg BK263.out hg (Kd.R_ne HO_264003.out BK263.out (by decide)))
      have n4_ := Aside0.mk (hb)
      have n5_ := Aside0.mk (ho)
      clear HO_11
      clear HO_264002
      clear BK245
      clear BK263
      clear HB
      clear HO_264003
      have HO_11 := n0_
      have HO_264002 := n1_
      have BK245 := n2_
      have BK263 := n3_
      have HB := n4_
      have HO267 := n5_
      clear n0_ n1_ n2_ n3_ n4_ n5_
      clear ho hb hg hat
      obtain ⟨Ao33, co33, eo33⟩ := Kd.R_slice HO267.out
      (first | subst eo33 | (injection eo33 with f1_ f2_ f3_; have f4_ := f1_.symm; have f5_ := f3_.symm; clear f1_ f2_ f3_; subst f4_; subst f5_))
      refine hK.out _ _ ?_
      clear hK K
      refine na (some 74) ?_
      refine pa 9 (some 75) ?_
      refine last_ (i := 10) (N := none) q6k15 rfl rfl (one_of HT_.out (by kernel_rfl)) (by decide) (fun K hK => ?_)
      have hs34 : w32.cell? ⟨gb263, 3, none⟩ = some (u264003) := (blk_cell BK263.out 3).trans rfl
      have hfs34 := blk_frozen BK263.out 3
      have hns34_0 := NB245_263.out
      have hms34_0 := NB263_245.out
      refine skip_ (w1 := ?_) (by rfl) rfl ?_ ?_; rotate_left; (focus go_simp; rfl)
      refine hK.out _ _ ?_
      clear hK K
      refine done_ (done_of HT_.out (by kernel_rfl)) ?_
      try go_wp2
      go_roundg k2
      case measure => have := HJ5.out; have := HK2.out; omega
      case rel => exact ⟨(wrap64 (x15_2 + 1)), (y265), (.slice Ao33 y265.length co33), (by first | rfl | (simp; done) | (simp [*]; done)), H', ⟨by have := HJ5.out; have := HK2.out; omega⟩, ⟨by (with_reducible repeat (first | apply rA | apply rN | apply rD)); exact Kd.R_mono (Kd.R_far (p := ⟨gb263, 3, none⟩) (Kd.R_types HO_11.out BK263.out (by decide)) (fun _ hk => hk.2) _) (fun _ hk => ⟨hk.1.1, hk.1.2⟩)⟩, ⟨by (with_reducible repeat (first | apply rA | apply rN | apply rD)); exact Kd.R_mono (Kd.R_far (p := ⟨gb263, 3, none⟩) (Kd.R_types HO_264002.out BK263.out (by decide)) (fun _ hk => hk.2) _) (fun _ hk => ⟨hk.1.1, hk.1.2⟩)⟩, ⟨by (with_reducible repeat (first | apply rA | apply rN | apply rD)); exact Kd.R_mono (Kd.R_far (p := ⟨gb263, 3, none⟩) (Kd.R_types HO267.out BK263.out (by decide)) (fun _ hk => hk.2) _) (fun _ hk => ⟨hk.1.1, hk.1.2⟩)⟩, ⟨by (with_reducible repeat (first | apply bN | apply bD | apply bA)); refine blk_far ?_ NB245_263.out _; (with_reducible repeat (first | apply bN | apply bD | apply bA)); exact BK245.out⟩, ⟨by (with_reducible repeat (first | apply bN | apply bD | apply bA)); refine blk_put (cs := #[.int .i64 (rd t246 0), .int .i64 (rd t246 1), .slice Ao21 t251.length co21, u264003]) ?_ 3 _ rfl; (with_reducible repeat (first | apply bN | apply bD | apply bA)); exact BK263.out⟩, ⟨mH⟩⟩
     rw [if_neg c27] at H
     have c27b0 : decide (x15_2 < (t256.length : Int)) = false := decide_eq_false c27
     clear c27
     replace H := Option.bind_eq_some_iff.mp H
     obtain ⟨⟨t268, t269⟩, A350, H⟩ := H
     replace H : (if t269 = 0 then (if t268.toList = a0.toList then (some ((rd t246 0), (rd t246 1), t251, x264003_2, 0)) else (some (0, 0, ([] : List Int), ([] : List Int), 30))) else (some (0, 0, ([] : List Int), ([] : List Int), 30))) = some (r1, r2, r3, r4, r5) := H
     have A35 := Aside0.mk A350
     clear A350
     by_cases c36 : t269 = 0
     case neg =>
      rw [if_neg c36] at H
      have c36b0 : (t269 == 0) = false := beq_eq_false_iff_ne.mpr c36
      have c36b1 : (t269 != 0) = true := bne_iff_ne.mpr c36
      simp only [Option.some.injEq, Prod.mk.injEq] at H
      obtain ⟨rfl, rfl, rfl, rfl, rfl⟩ := H
      obtain ⟨Ao51, co51, eo51⟩ := Kd.R_slice HO_11.out
      subst eo51
      have hnb52 := NB263_245.out
      have hnc52 := NB245_263.out
      obtain ⟨hcz53_0, hcz53_1, hcz53_2, hcz53_3, hfz53_0, hfz53_1, hfz53_2, hfz53_3⟩ := kc4 BK263.out
      obtain ⟨Ao54, co54, eo54⟩ := Kd.R_slice HO_264003.out
      subst eo54
      go_wp2_with (first | ((with_reducible refine gate_callee (f := 48) rfl ?_); refine goesL_ (some 79) rfl rfl Try.func48 (by kernel_rfl) rfl #[.agg #[.int .i64 (rd t246 0), .int .i64 (rd t246 1), .slice Ao21 t251.length co21, .slice Ao54 x264003_2.length co54], .string a1] rfl (by (try simp only [List.map_toArray, List.map_cons, List.map_nil]); first | done | rfl | (simp only [List.length_drop, List.length_take]; rfl)) ?_; (with_reducible refine (clinkerref03_Encode.calls k2 (rd t246 0) (rd t246 1) _ _ t251 _ _ x264003_2 a1 t268 t269 _ ?side1 ?side2 ?side3 ?side4 A35.out).mono ?_); (case side1 => repeat (first | exact (Kd.R_reads' HO_264002.out).2.2 | (with_reducible refine Kd.C_alloc ?_ _) | (with_reducible refine Kd.C_drewN ?_ _) | (with_reducible refine Kd.C_drew ?_))); (case side2 => exact (Kd.R_reads' HO_264002.out).2.1); (case side3 => repeat (first | exact (Kd.R_reads' HO_264003.out).2.2 | (with_reducible refine Kd.C_alloc ?_ _) | (with_reducible refine Kd.C_drewN ?_ _) | (with_reducible refine Kd.C_drew ?_))); (case side4 => exact (Kd.R_reads' HO_264003.out).2.1); rintro e w55 ⟨rfl, hb⟩; refine ⟨_, rfl, ?_⟩; replace HO_11 := Aside0.mk (Kd.R_below (mR HO_11.out) hb); replace HO_264002 := Aside0.mk (Kd.R_below (mR HO_264002.out) hb); replace HO_264003 := Aside0.mk (Kd.R_below (mR HO_264003.out) hb); replace BK245 := Aside0.mk (bb BK245.out hb); replace BK263 := Aside0.mk (bb BK263.out hb); replace HB := Aside0.mk (bst hb); (try clear hb); (try clear hb2); (try clear hk); (try clear hi); obtain ⟨hcz56_0, hcz56_1, hcz56_2, hcz56_3, hfz56_0, hfz56_1, hfz56_2, hfz56_3⟩ := kc4 BK245.out))
      refine bodyPost_ret (results_ct rfl _ _ gb245 42 #[.int .i64 0, .int .i64 0, .slice none 0 0, .slice none 0 0] (0, 0) _ rfl (by (with_reducible repeat (first | apply bN | apply bD | apply bA)); refine blk_put (cs := #[.int .i64 0, .int .i64 0, .slice none 0 0, .slice none 0 0]) ?_ 3 _ rfl; (with_reducible repeat (first | apply bN | apply bD | apply bA)); refine blk_put (cs := #[.int .i64 0, .int .i64 0, .slice none 0 0, .slice none 0 0]) ?_ 2 _ rfl; (with_reducible repeat (first | apply bN | apply bD | apply bA)); refine blk_put (cs := #[.int .i64 0, .int .i64 0, .slice none 0 0, .slice none 0 0]) ?_ 1 _ rfl; (with_reducible repeat (first | apply bN | apply bD | apply bA)); refine blk_put (cs := #[.int .i64 0, .int .i64 0, .slice none 0 0, .slice none 0 0]) ?_ 0 _ rfl; (with_reducible repeat (first | apply bN | apply bD | apply bA)); exact BK245.out) Try.underlying42 rfl (by kernel_rfl)) rfl ?_
      exact ⟨_, _, by first | rfl | (simp [errW_none, errW_some] <;> rfl) | (simp [*, errW_none, errW_some] <;> rfl), by first | exact Kd.R_nil _ _ _ _ _ | exact Kd.N_nil _ _ _ _ _ | exact Kd.V_nil _ _ _ _ _ | exact Kd.Q_nil _ _ _ _ _ | exact Kd.S_nil _ _ _ _ _, by first | exact Kd.R_nil _ _ _ _ _ | exact Kd.N_nil _ _ _ _ _ | exact Kd.V_nil _ _ _ _ _ | exact Kd.Q_nil _ _ _ _ _ | exact Kd.S_nil _ _ _ _ _, by repeat (first | (with_reducible first | exact HB.out | apply lA | apply lN | apply lD | refine lS ?_ GE245.out | refine lS ?_ GE263.out) | exact HB.out)⟩
     rw [if_pos c36] at H
     have c36b0 : (t269 == 0) = true := beq_iff_eq.mpr c36
     have c36b1 : (t269 != 0) = false := bne_eq_false_iff_eq.mpr c36
     clear c36
     by_cases c37 : t268.toList = a0.toList
     case neg =>
      rw [if_neg c37] at H
      have c37b0 : (t268.toList == a0.toList) = false := beq_eq_false_iff_ne.mpr c37
      have c37b1 : (t268.toList != a0.toList) = true := bne_iff_ne.mpr c37
      simp only [Option.some.injEq, Prod.mk.injEq] at H
      obtain ⟨rfl, rfl, rfl, rfl, rfl⟩ := H
      obtain ⟨Ao45, co45, eo45⟩ := Kd.R_slice HO_11.out
      subst eo45
      have hnb46 := NB263_245.out
      have hnc46 := NB245_263.out
      obtain ⟨hcz47_0, hcz47_1, hcz47_2, hcz47_3, hfz47_0, hfz47_1, hfz47_2, hfz47_3⟩ := kc4 BK263.out
      obtain ⟨Ao48, co48, eo48⟩ := Kd.R_slice HO_264003.out
      subst eo48
      go_wp2_with (first | ((with_reducible refine gate_callee (f := 48) rfl ?_); refine goesL_ (some 79) rfl rfl Try.func48 (by kernel_rfl) rfl #[.agg #[.int .i64 (rd t246 0), .int .i64 (rd t246 1), .slice Ao21 t251.length co21, .slice Ao48 x264003_2.length co48], .string a1] rfl (by (try simp only [List.map_toArray, List.map_cons, List.map_nil]); first | done | rfl | (simp only [List.length_drop, List.length_take]; rfl)) ?_; (with_reducible refine (clinkerref03_Encode.calls k2 (rd t246 0) (rd t246 1) _ _ t251 _ _ x264003_2 a1 t268 t269 _ ?side1 ?side2 ?side3 ?side4 A35.out).mono ?_); (case side1 => repeat (first | exact (Kd.R_reads' HO_264002.out).2.2 | (with_reducible refine Kd.C_alloc ?_ _) | (with_reducible refine Kd.C_drewN ?_ _) | (with_reducible refine Kd.C_drew ?_))); (case side2 => exact (Kd.R_reads' HO_264002.out).2.1); (case side3 => repeat (first | exact (Kd.R_reads' HO_264003.out).2.2 | (with_reducible refine Kd.C_alloc ?_ _) | (with_reducible refine Kd.C_drewN ?_ _) | (with_reducible refine Kd.C_drew ?_))); (case side4 => exact (Kd.R_reads' HO_264003.out).2.1); rintro e w49 ⟨rfl, hb⟩; refine ⟨_, rfl, ?_⟩; replace HO_11 := Aside0.mk (Kd.R_below (mR HO_11.out) hb); replace HO_264002 := Aside0.mk (Kd.R_below (mR HO_264002.out) hb); replace HO_264003 := Aside0.mk (Kd.R_below (mR HO_264003.out) hb); replace BK245 := Aside0.mk (bb BK245.out hb); replace BK263 := Aside0.mk (bb BK263.out hb); replace HB := Aside0.mk (bst hb); (try clear hb); (try clear hb2); (try clear hk); (try clear hi); obtain ⟨hcz50_0, hcz50_1, hcz50_2, hcz50_3, hfz50_0, hfz50_1, hfz50_2, hfz50_3⟩ := kc4 BK245.out))
      refine bodyPost_ret (results_ct rfl _ _ gb245 42 #[.int .i64 0, .int .i64 0, .slice none 0 0, .slice none 0 0] (0, 0) _ rfl (by (with_reducible repeat (first | apply bN | apply bD | apply bA)); refine blk_put (cs := #[.int .i64 0, .int .i64 0, .slice none 0 0, .slice none 0 0]) ?_ 3 _ rfl; (with_reducible repeat (first | apply bN | apply bD | apply bA)); refine blk_put (cs := #[.int .i64 0, .int .i64 0, .slice none 0 0, .slice none 0 0]) ?_ 2 _ rfl; (with_reducible repeat (first | apply bN | apply bD | apply bA)); refine blk_put (cs := #[.int .i64 0, .int .i64 0, .slice none 0 0, .slice none 0 0]) ?_ 1 _ rfl; (with_reducible repeat (first | apply bN | apply bD | apply bA)); refine blk_put (cs := #[.int .i64 0, .int .i64 0, .slice none 0 0, .slice none 0 0]) ?_ 0 _ rfl; (with_reducible repeat (first | apply bN | apply bD | apply bA)); exact BK245.out) Try.underlying42 rfl (by kernel_rfl)) rfl ?_
      exact ⟨_, _, by first | rfl | (simp [errW_none, errW_some] <;> rfl) | (simp [*, errW_none, errW_some] <;> rfl), by first | exact Kd.R_nil _ _ _ _ _ | exact Kd.N_nil _ _ _ _ _ | exact Kd.V_nil _ _ _ _ _ | exact Kd.Q_nil _ _ _ _ _ | exact Kd.S_nil _ _ _ _ _, by first | exact Kd.R_nil _ _ _ _ _ | exact Kd.N_nil _ _ _ _ _ | exact Kd.V_nil _ _ _ _ _ | exact Kd.Q_nil _ _ _ _ _ | exact Kd.S_nil _ _ _ _ _, by repeat (first | (with_reducible first | exact HB.out | apply lA | apply lN | apply lD | refine lS ?_ GE245.out | refine lS ?_ GE263.out) | exact HB.out)⟩
     rw [if_pos c37] at H
     have c37b0 : (t268.toList == a0.toList) = true := beq_iff_eq.mpr c37
     have c37b1 : (t268.toList != a0.toList) = false := bne_eq_false_iff_eq.mpr c37
     clear c37
     simp only [Option.some.injEq, Prod.mk.injEq] at H
     obtain ⟨rfl, rfl, rfl, rfl, rfl⟩ := H
     obtain ⟨Ao38, co38, eo38⟩ := Kd.R_slice HO_11.out
     subst eo38
     have hnb39 := NB263_245.out
     have hnc39 := NB245_263.out
     obtain ⟨hcz40_0, hcz40_1, hcz40_2, hcz40_3, hfz40_0, hfz40_1, hfz40_2, hfz40_3⟩ := kc4 BK263.out
     obtain ⟨Ao41, co41, eo41⟩ := Kd.R_slice HO_264003.out
     subst eo41
     go_wp2_with (first | ((with_reducible refine gate_callee (f := 48) rfl ?_); refine goesL_ (some 79) rfl rfl Try.func48 (by kernel_rfl) rfl #[.agg #[.int .i64 (rd t246 0), .int .i64 (rd t246 1), .slice Ao21 t251.length co21, .slice Ao41 x264003_2.length co41], .string a1] rfl (by (try simp only [List.map_toArray, List.map_cons, List.map_nil]); first | done | rfl | (simp only [List.length_drop, List.length_take]; rfl)) ?_; (with_reducible refine (clinkerref03_Encode.calls k2 (rd t246 0) (rd t246 1) _ _ t251 _ _ x264003_2 a1 t268 t269 _ ?side1 ?side2 ?side3 ?side4 A35.out).mono ?_); (case side1 => repeat (first | exact (Kd.R_reads' HO_264002.out).2.2 | (with_reducible refine Kd.C_alloc ?_ _) | (with_reducible refine Kd.C_drewN ?_ _) | (with_reducible refine Kd.C_drew ?_))); (case side2 => exact (Kd.R_reads' HO_264002.out).2.1); (case side3 => repeat (first | exact (Kd.R_reads' HO_264003.out).2.2 | (with_reducible refine Kd.C_alloc ?_ _) | (with_reducible refine Kd.C_drewN ?_ _) | (with_reducible refine Kd.C_drew ?_))); (case side4 => exact (Kd.R_reads' HO_264003.out).2.1); rintro e w42 ⟨rfl, hb⟩; refine ⟨_, rfl, ?_⟩; replace HO_11 := Aside0.mk (Kd.R_below (mR HO_11.out) hb); replace HO_264002 := Aside0.mk (Kd.R_below (mR HO_264002.out) hb); replace HO_264003 := Aside0.mk (Kd.R_below (mR HO_264003.out) hb); replace BK245 := Aside0.mk (bb BK245.out hb); replace BK263 := Aside0.mk (bb BK263.out hb); replace HB := Aside0.mk (bst hb); (try clear hb); (try clear hb2); (try clear hk); (try clear hi); obtain ⟨hcz43_0, hcz43_1, hcz43_2, hcz43_3, hfz43_0, hfz43_1, hfz43_2, hfz43_3⟩ := kc4 BK263.out; obtain ⟨hcz44_0, hcz44_1, hcz44_2, hcz44_3, hfz44_0, hfz44_1, hfz44_2, hfz44_3⟩ := kc4 BK245.out))
     refine bodyPost_ret (results_ct rfl _ _ gb245 42 #[.int .i64 (rd t246 0), .int .i64 (rd t246 1), .slice Ao21 t251.length co21, .slice Ao41 x264003_2.length co41] (0, 0) _ rfl (by (with_reducible repeat (first | apply bN | apply bD | apply bA)); refine blk_put (cs := #[.int .i64 (rd t246 0), .int .i64 (rd t246 1), .slice Ao21 t251.length co21, .slice none 0 0]) ?_ 3 _ rfl; (with_reducible repeat (first | apply bN | apply bD | apply bA)); refine blk_put (cs := #[.int .i64 (rd t246 0), .int .i64 (rd t246 1), .slice none 0 0, .slice none 0 0]) ?_ 2 _ rfl; (with_reducible repeat (first | apply bN | apply bD | apply bA)); refine blk_put (cs := #[.int .i64 (rd t246 0), .int .i64 0, .slice none 0 0, .slice none 0 0]) ?_ 1 _ rfl; (with_reducible repeat (first | apply bN | apply bD | apply bA)); refine blk_put (cs := #[.int .i64 0, .int .i64 0, .slice none 0 0, .slice none 0 0]) ?_ 0 _ rfl; (with_reducible repeat (first | apply bN | apply bD | apply bA)); exact BK245.out) Try.underlying42 rfl (by kernel_rfl)) rfl ?_
     exact ⟨_, _, by first | rfl | (simp [errW_none, errW_some] <;> rfl) | (simp [*, errW_none, errW_some] <;> rfl), by (with_reducible repeat (first | apply rA | apply rN | apply rD)); exact Kd.R_mono (Kd.R_far (p := ⟨gb245, 3, none⟩) (Kd.R_far (p := ⟨gb245, 2, none⟩) (Kd.R_far (p := ⟨gb245, 1, none⟩) (Kd.R_far (p := ⟨gb245, 0, none⟩) (Kd.R_types HO_264002.out BK245.out (by decide)) (fun _ hk => hk.2) (.int .i64 (rd t246 0))) (fun _ hk => hk.2) (.int .i64 (rd t246 1))) (fun _ hk => hk.2) _) (fun _ hk => hk.2) _) (fun _ hk => hk.1.2), by (with_reducible repeat (first | apply rA | apply rN | apply rD)); exact Kd.R_mono (Kd.R_far (p := ⟨gb245, 3, none⟩) (Kd.R_far (p := ⟨gb245, 2, none⟩) (Kd.R_far (p := ⟨gb245, 1, none⟩) (Kd.R_far (p := ⟨gb245, 0, none⟩) (Kd.R_types HO_264003.out BK245.out (by decide)) (fun _ hk => hk.2) (.int .i64 (rd t246 0))) (fun _ hk => hk.2) (.int .i64 (rd t246 1))) (fun _ hk => hk.2) _) (fun _ hk => hk.2) _) (fun _ hk => hk.1.2), by repeat (first | (with_reducible first | exact HB.out | apply lA | apply lN | apply lD | refine lS ?_ GE245.out | refine lS ?_ GE263.out) | exact HB.out)⟩
/-! ### clinkerref04_Look: function 31 -/
def clinkerref04_Look.f (k : Nat) (a0_0 : Bool) (a0_1 : ByteArray) (a0_2 : ByteArray) : Option (Int × Int × Int × List Int × List Int) := if a0_0 = true then ((clinkerref03_Decode.f k a0_2 a0_1).bind fun bt272 => (if bt272.2.2.2.2 = 0 then (some (1, bt272.1, bt272.2.1, bt272.2.2.1, bt272.2.2.2.1)) else (some (2, 0, 0, ([] : List Int), ([] : List Int))))) else (some (0, 0, 0, ([] : List Int), ([] : List Int)))
theorem clinkerref04_Look.mono : ∀ a0 a1 a2 k, LeO (clinkerref04_Look.f k a0 a1 a2) (clinkerref04_Look.f (k + 1) a0 a1 a2) := by
 intro a0 a1 a2 k
 unfold clinkerref04_Look.f
 repeat' first
   | (with_reducible exact clinkerref03_Decode.mono _ _ _)
   | (with_reducible exact LeO.refl _)
   | (with_reducible exact LeO.none _)
   | (with_reducible refine LeO.ite ?_ ?_)
   | (with_reducible refine LeO.bind ?_ (fun _ => ?_))
   | exact clinkerref03_Decode.mono _ _ _
   | exact LeO.none _
   | refine LeO.ite ?_ ?_
   | refine LeO.bind ?_ (fun _ => ?_)
set_option maxHeartbeats 8000000 in
set_option maxRecDepth 100000 in
theorem clinkerref04_Look.calls (k : Nat) (a0_0 : Bool) (a0_1 : ByteArray) (a0_2 : ByteArray) (r1 : Int) (r2 : Int) (r3 : Int) (r4 : List Int) (r5 : List Int) (w : World) (h : clinkerref04_Look.f k a0_0 a0_1 a0_2 = some (r1, r2, r3, r4, r5)) :
  Calls Try.prog 31 #[.agg #[.bool a0_0, .string a0_1, .string a0_2]] w fun e w' => ∃ v3_ v4_ : Value, e = .returned (.tuple #[.int .i64 r1, .agg #[.int .i64 r2, .int .i64 r3, v3_, v4_]]) ∧ Kd.R (Kd.int .i64) 3 w' w.heap.size (fun k_ => some k_ ≠ (v4_ : Value).ownBlock) v3_ r4 ∧ Kd.R (Kd.int .i64) 3 w' w.heap.size (fun k_ => some k_ ≠ (v3_ : Value).ownBlock) v4_ r5 ∧ Below w.heap.size w w' := by
 have hu54 := Try.underlying54
 have hu42 := Try.underlying42
 have HB := Aside0.mk (Below.refl w.heap.size w)
 have H : (if a0_0 = true then ((clinkerref03_Decode.f k a0_2 a0_1).bind fun bt272 => (if bt272.2.2.2.2 = 0 then (some (1, bt272.1, bt272.2.1, bt272.2.2.1, bt272.2.2.2.1)) else (some (2, 0, 0, ([] : List Int), ([] : List Int))))) else (some (0, 0, 0, ([] : List Int), ([] : List Int)))) = some (r1, r2, r3, r4, r5) := h
 clear h
 by_cases c2 : a0_0 = true
 case neg =>
  replace c2 := Bool.eq_false_iff.mpr c2
  subst c2
  have H1 : (some (0, 0, 0, ([] : List Int), ([] : List Int))) = some (r1, r2, r3, r4, r5) := by rw [if_neg (show ¬ (false = true) by decide)] at H; exact H
  clear H
  have H := H1
  clear H1
  simp only [Option.some.injEq, Prod.mk.injEq] at H
  obtain ⟨rfl, rfl, rfl, rfl, rfl⟩ := H
  go_enter Try.func31, Try.ntmps31
  go_wp2_with (first | ((with_reducible refine gate_dst (N := 1) rfl ?_); refine box_event ?hg (N := 1) ?hd (cs := #[.bool false, .string a0_1, .string a0_2]) (t := 54) ?hr ?_; (case hd => rfl); (case hg => rfl); (case hr => first | (go_simp; done) | (go_simp; rfl)); intro gb270 hg w34 hbox hb; have BK270 := Aside0.mk (hbox); have GW270 := Aside0.mk ((bz hg : w.heap.size ≤ gb270)); replace HB := Aside0.mk (bst hb); have GE270 := GW270; clear hb hbox hg) | ((with_reducible refine gate_dst (N := 3) rfl ?_); refine box_event ?hg (N := 3) ?hd (cs := #[.int .i64 0, .int .i64 0, .slice none 0 0, .slice none 0 0]) (t := 42) ?hr ?_; (case hd => rfl); (case hg => rfl); (case hr => first | (go_simp; done) | (go_simp; rfl)); intro gb271 hg w35 hbox hb; have BK271 := Aside0.mk (hbox); have GW271 := Aside0.mk ((bz hg : w.heap.size ≤ gb271)); replace HB := Aside0.mk (bst hb); have GE271 := GW271; have NB270_271 := Aside0.mk ((bl BK270.out hg : gb270 ≠ gb271)); replace BK270 := Aside0.mk (bb BK270.out hb); have NB271_270 := Aside0.mk NB270_271.out.symm; clear hb hbox hg; have hnb36 := NB270_271.out; have hnc36 := NB271_270.out; obtain ⟨hcz37_0, hcz37_1, hcz37_2, hfz37_0, hfz37_1, hfz37_2⟩ := kc3 BK270.out; obtain ⟨hcz38_0, hcz38_1, hcz38_2, hcz38_3, hfz38_0, hfz38_1, hfz38_2, hfz38_3⟩ := kc4 BK271.out))
  refine bodyPost_ret (results_tc rfl _ _ gb271 42 #[.int .i64 0, .int .i64 0, .slice none 0 0, .slice none 0 0] (0, 0) _ rfl (by (with_reducible repeat (first | apply bN | apply bD | apply bA)); refine blk_put (cs := #[.int .i64 0, .int .i64 0, .slice none 0 0, .slice none 0 0]) ?_ 3 _ rfl; (with_reducible repeat (first | apply bN | apply bD | apply bA)); refine blk_put (cs := #[.int .i64 0, .int .i64 0, .slice none 0 0, .slice none 0 0]) ?_ 2 _ rfl; (with_reducible repeat (first | apply bN | apply bD | apply bA)); refine blk_put (cs := #[.int .i64 0, .int .i64 0, .slice none 0 0, .slice none 0 0]) ?_ 1 _ rfl; (with_reducible repeat (first | apply bN | apply bD | apply bA)); refine blk_put (cs := #[.int .i64 0, .int .i64 0, .slice none 0 0, .slice none 0 0]) ?_ 0 _ rfl; (with_reducible repeat (first | apply bN | apply bD | apply bA)); exact BK271.out) Try.underlying42 rfl (by kernel_rfl)) rfl ?_
  exact ⟨_, _, by first | rfl | (simp [errW_none, errW_some] <;> rfl) | (simp [*, errW_none, errW_some] <;> rfl), by first | exact Kd.R_nil _ _ _ _ _ | exact Kd.N_nil _ _ _ _ _ | exact Kd.V_nil _ _ _ _ _ | exact Kd.Q_nil _ _ _ _ _ | exact Kd.S_nil _ _ _ _ _, by first | exact Kd.R_nil _ _ _ _ _ | exact Kd.N_nil _ _ _ _ _ | exact Kd.V_nil _ _ _ _ _ | exact Kd.Q_nil _ _ _ _ _ | exact Kd.S_nil _ _ _ _ _, by repeat (first | (with_reducible first | exact HB.out | apply lA | apply lN | apply lD | refine lS ?_ GE270.out | refine lS ?_ GE271.out) | exact HB.out)⟩
 subst c2
 have H1 : ((clinkerref03_Decode.f k a0_2 a0_1).bind fun bt272 => (if bt272.2.2.2.2 = 0 then (some (1, bt272.1, bt272.2.1, bt272.2.2.1, bt272.2.2.2.1)) else (some (2, 0, 0, ([] : List Int), ([] : List Int))))) = some (r1, r2, r3, r4, r5) := by rw [if_pos rfl] at H; exact H
 clear H
 have H := H1
 clear H1
 replace H := Option.bind_eq_some_iff.mp H
 obtain ⟨⟨t272, t273, t274, t277, t280⟩, A30, H⟩ := H
 replace H : (if t280 = 0 then (some (1, t272, t273, t274, t277)) else (some (2, 0, 0, ([] : List Int), ([] : List Int)))) = some (r1, r2, r3, r4, r5) := H
 have A3 := Aside0.mk A30
 clear A30
 by_cases c4 : t280 = 0
 case neg =>
  rw [if_neg c4] at H
  have c4b0 : (t280 == 0) = false := beq_eq_false_iff_ne.mpr c4
  have c4b1 : (t280 != 0) = true := bne_iff_ne.mpr c4
  simp only [Option.some.injEq, Prod.mk.injEq] at H
  obtain ⟨rfl, rfl, rfl, rfl, rfl⟩ := H
  go_enter Try.func31, Try.ntmps31
  go_wp2_with (first | ((with_reducible refine gate_dst (N := 1) rfl ?_); refine box_event ?hg (N := 1) ?hd (cs := #[.bool true, .string a0_1, .string a0_2]) (t := 54) ?hr ?_; (case hd => rfl); (case hg => rfl); (case hr => first | (go_simp; done) | (go_simp; rfl)); intro gb270 hg w22 hbox hb; have BK270 := Aside0.mk (hbox); have GW270 := Aside0.mk ((bz hg : w.heap.size ≤ gb270)); replace HB := Aside0.mk (bst hb); have GE270 := GW270; clear hb hbox hg) | ((with_reducible refine gate_dst (N := 3) rfl ?_); refine box_event ?hg (N := 3) ?hd (cs := #[.int .i64 0, .int .i64 0, .slice none 0 0, .slice none 0 0]) (t := 42) ?hr ?_; (case hd => rfl); (case hg => rfl); (case hr => first | (go_simp; done) | (go_simp; rfl)); intro gb271 hg w23 hbox hb; have BK271 := Aside0.mk (hbox); have GW271 := Aside0.mk ((bz hg : w.heap.size ≤ gb271)); replace HB := Aside0.mk (bst hb); have GE271 := GW271; have NB270_271 := Aside0.mk ((bl BK270.out hg : gb270 ≠ gb271)); replace BK270 := Aside0.mk (bb BK270.out hb); have NB271_270 := Aside0.mk NB270_271.out.symm; clear hb hbox hg; have hnb24 := NB270_271.out; have hnc24 := NB271_270.out; obtain ⟨hcz25_0, hcz25_1, hcz25_2, hfz25_0, hfz25_1, hfz25_2⟩ := kc3 BK270.out) | ((with_reducible refine gate_callee (f := 43) rfl ?_); refine goesL_ (some 15) rfl rfl Try.func43 (by kernel_rfl) rfl #[.string a0_2, .string a0_1] rfl (by (try simp only [List.map_toArray, List.map_cons, List.map_nil]); first | done | rfl | (simp only [List.length_drop, List.length_take]; rfl)) ?_; (with_reducible refine (clinkerref03_Decode.calls k a0_2 a0_1 t272 t273 t274 t277 t280 _ A3.out).mono ?_); rintro e w26 ⟨v275, v278, rfl, ho0, ho1, hb⟩; refine ⟨_, rfl, ?_⟩; have HO276 := Aside0.mk (Kd.R_lower ho0 bsz); have HO279 := Aside0.mk (Kd.R_lower ho1 bsz); replace BK270 := Aside0.mk (bb BK270.out hb); replace BK271 := Aside0.mk (bb BK271.out hb); replace HB := Aside0.mk (bst hb); (try clear hb); (try clear hb2); (try clear hk); (try clear hi); (try clear ho0); (try clear ho1)) | ((with_reducible refine gate_dst (N := 4) rfl ?_); refine box_event ?hg (N := 4) ?hd (cs := #[.int .i64 0, .int .i64 0, .slice none 0 0, .slice none 0 0]) (t := 42) ?hr ?_; (case hd => rfl); (case hg => rfl); (case hr => first | (go_simp; done) | (go_simp; rfl)); intro gb281 hg w27 hbox hb; replace HO276 := Aside0.mk (Kd.R_below (mR HO276.out) hb); replace HO279 := Aside0.mk (Kd.R_below (mR HO279.out) hb); have BK281 := Aside0.mk (hbox); have GW281 := Aside0.mk ((bz hg : w.heap.size ≤ gb281)); replace HB := Aside0.mk (bst hb); have GE281 := GW281; have NB270_281 := Aside0.mk ((bl BK270.out hg : gb270 ≠ gb281)); replace BK270 := Aside0.mk (bb BK270.out hb); have NB281_270 := Aside0.mk NB270_281.out.symm; have NB271_281 := Aside0.mk ((bl BK271.out hg : gb271 ≠ gb281)); replace BK271 := Aside0.mk (bb BK271.out hb); have NB281_271 := Aside0.mk NB271_281.out.symm; clear hb hbox hg; have hnb28 := NB281_270.out; have hnc28 := NB270_281.out; have hnb29 := NB281_271.out; have hnc29 := NB271_281.out; obtain ⟨hcz30_0, hcz30_1, hcz30_2, hcz30_3, hfz30_0, hfz30_1, hfz30_2, hfz30_3⟩ := kc4 BK281.out; obtain ⟨Ao31, co31, eo31⟩ := Kd.R_slice HO276.out; subst eo31; obtain ⟨Ao32, co32, eo32⟩ := Kd.R_slice HO279.out; subst eo32; obtain ⟨hcz33_0, hcz33_1, hcz33_2, hcz33_3, hfz33_0, hfz33_1, hfz33_2, hfz33_3⟩ := kc4 BK271.out))
  refine bodyPost_ret (results_tc rfl _ _ gb271 42 #[.int .i64 0, .int .i64 0, .slice none 0 0, .slice none 0 0] (0, 0) _ rfl (by (with_reducible repeat (first | apply bN | apply bD | apply bA)); refine blk_put (cs := #[.int .i64 0, .int .i64 0, .slice none 0 0, .slice none 0 0]) ?_ 3 _ rfl; (with_reducible repeat (first | apply bN | apply bD | apply bA)); refine blk_put (cs := #[.int .i64 0, .int .i64 0, .slice none 0 0, .slice none 0 0]) ?_ 2 _ rfl; (with_reducible repeat (first | apply bN | apply bD | apply bA)); refine blk_put (cs := #[.int .i64 0, .int .i64 0, .slice none 0 0, .slice none 0 0]) ?_ 1 _ rfl; (with_reducible repeat (first | apply bN | apply bD | apply bA)); refine blk_put (cs := #[.int .i64 0, .int .i64 0, .slice none 0 0, .slice none 0 0]) ?_ 0 _ rfl; (with_reducible repeat (first | apply bN | apply bD | apply bA)); refine blk_far ?_ NB271_281.out _; (with_reducible repeat (first | apply bN | apply bD | apply bA)); refine blk_far ?_ NB271_281.out _; (with_reducible repeat (first | apply bN | apply bD | apply bA)); refine blk_far ?_ NB271_281.out _; (with_reducible repeat (first | apply bN | apply bD | apply bA)); refine blk_far ?_ NB271_281.out _; (with_reducible repeat (first | apply bN | apply bD | apply bA)); exact BK271.out) Try.underlying42 rfl (by kernel_rfl)) rfl ?_
  exact ⟨_, _, by first | rfl | (simp [errW_none, errW_some] <;> rfl) | (simp [*, errW_none, errW_some] <;> rfl), by first | exact Kd.R_nil _ _ _ _ _ | exact Kd.N_nil _ _ _ _ _ | exact Kd.V_nil _ _ _ _ _ | exact Kd.Q_nil _ _ _ _ _ | exact Kd.S_nil _ _ _ _ _, by first | exact Kd.R_nil _ _ _ _ _ | exact Kd.N_nil _ _ _ _ _ | exact Kd.V_nil _ _ _ _ _ | exact Kd.Q_nil _ _ _ _ _ | exact Kd.S_nil _ _ _ _ _, by repeat (first | (with_reducible first | exact HB.out | apply lA | apply lN | apply lD | refine lS ?_ GE270.out | refine lS ?_ GE271.out | refine lS ?_ GE281.out) | exact HB.out)⟩
 rw [if_pos c4] at H
 have c4b0 : (t280 == 0) = true := beq_iff_eq.mpr c4
 have c4b1 : (t280 != 0) = false := bne_eq_false_iff_eq.mpr c4
 clear c4
 simp only [Option.some.injEq, Prod.mk.injEq] at H
 obtain ⟨rfl, rfl, rfl, rfl, rfl⟩ := H
 go_enter Try.func31, Try.ntmps31
 try go_wp2_with (first | ((with_reducible refine gate_dst (N := 1) rfl ?_); refine box_event ?hg (N := 1) ?hd (cs := #[.bool true, .string a0_1, .string a0_2]) (t := 54) ?hr ?_; (case hd => rfl); (case hg => rfl); (case hr => first | (go_simp; done) | (go_simp; rfl)); intro gb270 hg w5 hbox hb; have BK270 := Aside0.mk (hbox); have GW270 := Aside0.mk ((bz hg : w.heap.size ≤ gb270)); replace HB := Aside0.mk (bst hb); have GE270 := GW270; clear hb hbox hg) | ((with_reducible refine gate_dst (N := 3) rfl ?_); refine box_event ?hg (N := 3) ?hd (cs := #[.int .i64 0, .int .i64 0, .slice none 0 0, .slice none 0 0]) (t := 42) ?hr ?_; (case hd => rfl); (case hg => rfl); (case hr => first | (go_simp; done) | (go_simp; rfl)); intro gb271 hg w6 hbox hb; have BK271 := Aside0.mk (hbox); have GW271 := Aside0.mk ((bz hg : w.heap.size ≤ gb271)); replace HB := Aside0.mk (bst hb); have GE271 := GW271; have NB270_271 := Aside0.mk ((bl BK270.out hg : gb270 ≠ gb271)); replace BK270 := Aside0.mk (bb BK270.out hb); have NB271_270 := Aside0.mk NB270_271.out.symm; clear hb hbox hg; have hnb7 := NB270_271.out; have hnc7 := NB271_270.out; obtain ⟨hcz8_0, hcz8_1, hcz8_2, hfz8_0, hfz8_1, hfz8_2⟩ := kc3 BK270.out) | ((with_reducible refine gate_callee (f := 43) rfl ?_); refine goesL_ (some 15) rfl rfl Try.func43 (by kernel_rfl) rfl #[.string a0_2, .string a0_1] rfl (by (try simp only [List.map_toArray, List.map_cons, List.map_nil]); first | done | rfl | (simp only [List.length_drop, List.length_take]; rfl)) ?_; (with_reducible refine (clinkerref03_Decode.calls k a0_2 a0_1 t272 t273 t274 t277 t280 _ A3.out).mono ?_); rintro e w9 ⟨v275, v278, rfl, ho0, ho1, hb⟩; refine ⟨_, rfl, ?_⟩; have HO276 := Aside0.mk (Kd.R_lower ho0 bsz); have HO279 := Aside0.mk (Kd.R_lower ho1 bsz); replace BK270 := Aside0.mk (bb BK270.out hb); replace BK271 := Aside0.mk (bb BK271.out hb); replace HB := Aside0.mk (bst hb); (try clear hb); (try clear hb2); (try clear hk); (try clear hi); (try clear ho0); (try clear ho1)) | ((with_reducible refine gate_dst (N := 4) rfl ?_); refine box_event ?hg (N := 4) ?hd (cs := #[.int .i64 0, .int .i64 0, .slice none 0 0, .slice none 0 0]) (t := 42) ?hr ?_; (case hd => rfl); (case hg => rfl); (case hr => first | (go_simp; done) | (go_simp; rfl)); intro gb281 hg w10 hbox hb; replace HO276 := Aside0.mk (Kd.R_below (mR HO276.out) hb); replace HO279 := Aside0.mk (Kd.R_below (mR HO279.out) hb); have BK281 := Aside0.mk (hbox); have GW281 := Aside0.mk ((bz hg : w.heap.size ≤ gb281)); replace HB := Aside0.mk (bst hb); have GE281 := GW281; have NB270_281 := Aside0.mk ((bl BK270.out hg : gb270 ≠ gb281)); replace BK270 := Aside0.mk (bb BK270.out hb); have NB281_270 := Aside0.mk NB270_281.out.symm; have NB271_281 := Aside0.mk ((bl BK271.out hg : gb271 ≠ gb281)); replace BK271 := Aside0.mk (bb BK271.out hb); have NB281_271 := Aside0.mk NB271_281.out.symm; clear hb hbox hg; have hnb11 := NB281_270.out; have hnc11 := NB270_281.out; have hnb12 := NB281_271.out; have hnc12 := NB271_281.out; obtain ⟨hcz13_0, hcz13_1, hcz13_2, hcz13_3, hfz13_0, hfz13_1, hfz13_2, hfz13_3⟩ := kc4 BK281.out; obtain ⟨Ao14, co14, eo14⟩ := Kd.R_slice HO276.out; subst eo14; obtain ⟨Ao15, co15, eo15⟩ := Kd.R_slice HO279.out; subst eo15))
 have n0_ : Aside0 (Kd.R (Kd.int .i64) 3 ((((w10.setCell ⟨gb281, 0, none⟩ (.int .i64 t272)).setCell ⟨gb281, 1, none⟩ (.int .i64 t273)).setCell ⟨gb281, 2, none⟩ (.slice Ao14 t274.length co14)).setCell ⟨gb281, 3, none⟩ (.slice Ao15 t277.length co15)) w.heap.size (fun k_ => some k_ ≠ (.slice Ao15 t277.length co15 : Value).ownBlock) (.slice Ao14 t274.length co14) t274) := ⟨by (with_reducible repeat (first | apply rA | apply rN | apply rD)); exact Kd.R_mono (Kd.R_far (p := ⟨gb281, 3, none⟩) (Kd.R_far (p := ⟨gb281, 2, none⟩) (Kd.R_far (p := ⟨gb281, 1, none⟩) (Kd.R_far (p := ⟨gb281, 0, none⟩) (Kd.R_types HO276.out BK281.out (by decide)) (fun _ hk => hk.2) _) (fun _ hk => hk.2) _) (fun _ hk => hk.2) _) (fun _ hk => hk.2) _) (fun _ hk => hk.1)⟩
 have n1_ : Aside0 (Kd.R (Kd.int .i64) 3 ((((w10.setCell ⟨gb281, 0, none⟩ (.int .i64 t272)).setCell ⟨gb281, 1, none⟩ (.int .i64 t273)).setCell ⟨gb281, 2, none⟩ (.slice Ao14 t274.length co14)).setCell ⟨gb281, 3, none⟩ (.slice Ao15 t277.length co15)) w.heap.size (fun k_ => some k_ ≠ (.slice Ao14 t274.length co14 : Value).ownBlock) (.slice Ao15 t277.length co15) t277) := ⟨by (with_reducible repeat (first | apply rA | apply rN | apply rD)); exact Kd.R_mono (Kd.R_far (p := ⟨gb281, 3, none⟩) (Kd.R_far (p := ⟨gb281, 2, none⟩) (Kd.R_far (p := ⟨gb281, 1, none⟩) (Kd.R_far (p := ⟨gb281, 0, none⟩) (Kd.R_types HO279.out BK281.out (by decide)) (fun _ hk => hk.2) _) (fun _ hk => hk.2) _) (fun _ hk => hk.2) _) (fun _ hk => hk.2) _) (fun _ hk => hk.1)⟩
 have n2_ : Aside0 (((((w10.setCell ⟨gb281, 0, none⟩ (.int .i64 t272)).setCell ⟨gb281, 1, none⟩ (.int .i64 t273)).setCell ⟨gb281, 2, none⟩ (.slice Ao14 t274.length co14)).setCell ⟨gb281, 3, none⟩ (.slice Ao15 t277.length co15)).heap[gb270]? = some (.cells #[.bool true, .string a0_1, .string a0_2] 54 (0, 0))) := ⟨by (with_reducible repeat (first | apply bN | apply bD | apply bA)); refine blk_far ?_ NB270_281.out _; (with_reducible repeat (first | apply bN | apply bD | apply bA)); refine blk_far ?_ NB270_281.out _; (with_reducible repeat (first | apply bN | apply bD | apply bA)); refine blk_far ?_ NB270_281.out _; (with_reducible repeat (first | apply bN | apply bD | apply bA)); refine blk_far ?_ NB270_281.out _; (with_reducible repeat (first | apply bN | apply bD | apply bA)); exact BK270.out⟩
 have n3_ : Aside0 (((((w10.setCell ⟨gb281, 0, none⟩ (.int .i64 t272)).setCell ⟨gb281, 1, none⟩ (.int .i64 t273)).setCell ⟨gb281, 2, none⟩ (.slice Ao14 t274.length co14)).setCell ⟨gb281, 3, none⟩ (.slice Ao15 t277.length co15)).heap[gb271]? = some (.cells #[.int .i64 0, .int .i64 0, .slice none 0 0, .slice none 0 0] 42 (0, 0))) := ⟨by (with_reducible repeat (first | apply bN | apply bD | apply bA)); refine blk_far ?_ NB271_281.out _; (with_reducible repeat (first | apply bN | apply bD | apply bA)); refine blk_far ?_ NB271_281.out _; (with_reducible repeat (first | apply bN | apply bD | apply bA)); refine blk_far ?_ NB271_281.out _; (with_reducible repeat (first | apply bN | apply bD | apply bA)); refine blk_far ?_ NB271_281.out _; (with_reducible repeat (first | apply bN | apply bD | apply bA)); exact BK271.out⟩
 have n4_ : Aside0 (((((w10.setCell ⟨gb281, 0, none⟩ (.int .i64 t272)).setCell ⟨gb281, 1, none⟩ (.int .i64 t273)).setCell ⟨gb281, 2, none⟩ (.slice Ao14 t274.length co14)).setCell ⟨gb281, 3, none⟩ (.slice Ao15 t277.length co15)).heap[gb281]? = some (.cells #[.int .i64 t272, .int .i64 t273, .slice Ao14 t274.length co14, .slice Ao15 t277.length co15] 42 (0, 0))) := ⟨by (with_reducible repeat (first | apply bN | apply bD | apply bA)); refine blk_put (cs := #[.int .i64 t272, .int .i64 t273, .slice Ao14 t274.length co14, .slice none 0 0]) ?_ 3 _ rfl; (with_reducible repeat (first | apply bN | apply bD | apply bA)); refine blk_put (cs := #[.int .i64 t272, .int .i64 t273, .slice none 0 0, .slice none 0 0]) ?_ 2 _ rfl; (with_reducible repeat (first | apply bN | apply bD | apply bA)); refine blk_put (cs := #[.int .i64 t272, .int .i64 0, .slice none 0 0, .slice none 0 0]) ?_ 1 _ rfl; (with_reducible repeat (first | apply bN | apply bD | apply bA)); refine blk_put (cs := #[.int .i64 0, .int .i64 0, .slice none 0 0, .slice none 0 0]) ?_ 0 _ rfl; (with_reducible repeat (first | apply bN | apply bD | apply bA)); exact BK281.out⟩
 have n5_ : Aside0 (Below w.heap.size w ((((w10.setCell ⟨gb281, 0, none⟩ (.int .i64 t272)).setCell ⟨gb281, 1, none⟩ (.int .i64 t273)).setCell ⟨gb281, 2, none⟩ (.slice Ao14 t274.length co14)).setCell ⟨gb281, 3, none⟩ (.slice Ao15 t277.length co15))) := ⟨mH⟩
 (try clear HO276)
 (try clear HO279)
 (try clear BK270)
 (try clear BK271)
 (try clear BK281)
 (try clear HB)
 generalize ((((w10.setCell ⟨gb281, 0, none⟩ (.int .i64 t272)).setCell ⟨gb281, 1, none⟩ (.int .i64 t273)).setCell ⟨gb281, 2, none⟩ (.slice Ao14 t274.length co14)).setCell ⟨gb281, 3, none⟩ (.slice Ao15 t277.length co15)) = w16 at n0_ n1_ n2_ n3_ n4_ n5_ ⊢
 have HO276 := n0_
 have HO279 := n1_
 have BK270 := n2_
 have BK271 := n3_
 have BK281 := n4_
 have HB := n5_
 clear n0_ n1_ n2_ n3_ n4_ n5_
 replace HO276 := Aside0.mk (Kd.R_drew HO276.out)
 replace HO279 := Aside0.mk (Kd.R_drew HO279.out)
 replace BK270 := Aside0.mk (bD BK270.out)
 replace BK271 := Aside0.mk (bD BK271.out)
 replace BK281 := Aside0.mk (bD BK281.out)
 replace HB := Aside0.mk (lD HB.out)
 refine start_ (n := 3) (S := fun w' => w'.cell? ⟨gb281, 0, none⟩ = some (.int .i64 t272) ∧ w'.cell? ⟨gb281, 1, none⟩ = some (.int .i64 t273) ∧ w'.cell? ⟨gb281, 2, none⟩ = some (.slice Ao14 t274.length co14) ∧ w'.cell? ⟨gb281, 3, none⟩ = some (.slice Ao15 t277.length co15)) (ds := []) #[false, false, false] (by kernel_rfl) rfl rfl ⟨(blk_cell BK281.out 0).trans rfl, (blk_cell BK281.out 1).trans rfl, (blk_cell BK281.out 2).trans rfl, (blk_cell BK281.out 3).trans rfl⟩ (fun hHeld => ?_)
 generalize w16.drew = w17 at HO276 HO279 BK270 BK271 BK281 HB hHeld ⊢
 refine pb 1 (some 2) ?_
 refine tb 0 (some 21) hHeld ?_
 refine one_ (i := 2) (N := none) #[true, true, true] rfl rfl (by kernel_rfl) (by decide) (fun K hK => ?_)
 have hs18 : w17.cell? ⟨gb271, 0, none⟩ = some (.int .i64 0) := (blk_cell BK271.out 0).trans rfl
 have hfs18 := blk_frozen BK271.out 0
 have hns18_0 := NB270_271.out
 have hns18_2 := NB281_271.out
 have hms18_0 := NB271_270.out
 have hms18_2 := NB271_281.out
 have hs19 : w17.cell? ⟨gb271, 1, none⟩ = some (.int .i64 0) := (blk_cell BK271.out 1).trans rfl
 have hfs19 := blk_frozen BK271.out 1
 have hns19_0 := NB270_271.out
 have hns19_2 := NB281_271.out
 have hms19_0 := NB271_270.out
 have hms19_2 := NB271_281.out
 have hs20 : w17.cell? ⟨gb271, 2, none⟩ = some (.slice none 0 0) := (blk_cell BK271.out 2).trans rfl
 have hfs20 := blk_frozen BK271.out 2
 have hns20_0 := NB270_271.out
 have hns20_2 := NB281_271.out
 have hms20_0 := NB271_270.out
 have hms20_2 := NB271_281.out
 have hs21 : w17.cell? ⟨gb271, 3, none⟩ = some (.slice none 0 0) := (blk_cell BK271.out 3).trans rfl
 have hfs21 := blk_frozen BK271.out 3
 have hns21_0 := NB270_271.out
 have hns21_2 := NB281_271.out
 have hms21_0 := NB271_270.out
 have hms21_2 := NB271_281.out
 refine skip_ (w1 := ?_) (by rfl) rfl ?_ ?_; rotate_left; (focus go_simp; rfl)
 refine hK.out _ _ ⟨((cell_far (p := ⟨gb271, _, none⟩) NB281_271.out _).trans (((cell_far (p := ⟨gb271, _, none⟩) NB281_271.out _).trans (((cell_far (p := ⟨gb271, _, none⟩) NB281_271.out _).trans (((cell_far (p := ⟨gb271, _, none⟩) NB281_271.out _).trans (hHeld.1)))))))), ((cell_far (p := ⟨gb271, _, none⟩) NB281_271.out _).trans (((cell_far (p := ⟨gb271, _, none⟩) NB281_271.out _).trans (((cell_far (p := ⟨gb271, _, none⟩) NB281_271.out _).trans (((cell_far (p := ⟨gb271, _, none⟩) NB281_271.out _).trans (hHeld.2.1)))))))), ((cell_far (p := ⟨gb271, _, none⟩) NB281_271.out _).trans (((cell_far (p := ⟨gb271, _, none⟩) NB281_271.out _).trans (((cell_far (p := ⟨gb271, _, none⟩) NB281_271.out _).trans (((cell_far (p := ⟨gb271, _, none⟩) NB281_271.out _).trans (hHeld.2.2.1)))))))), ((cell_far (p := ⟨gb271, _, none⟩) NB281_271.out _).trans (((cell_far (p := ⟨gb271, _, none⟩) NB281_271.out _).trans (((cell_far (p := ⟨gb271, _, none⟩) NB281_271.out _).trans (((cell_far (p := ⟨gb271, _, none⟩) NB281_271.out _).trans (hHeld.2.2.2))))))))⟩ (fun hHeld => ?_)
 clear hK K
 refine done_ (by kernel_rfl) ?_
 try go_wp2
 refine bodyPost_ret (results_tc rfl _ _ gb271 42 #[.int .i64 t272, .int .i64 t273, .slice Ao14 t274.length co14, .slice Ao15 t277.length co15] (0, 0) _ rfl (by (with_reducible repeat (first | apply bN | apply bD | apply bA)); refine blk_put (cs := #[.int .i64 t272, .int .i64 t273, .slice Ao14 t274.length co14, .slice none 0 0]) ?_ 3 _ rfl; (with_reducible repeat (first | apply bN | apply bD | apply bA)); refine blk_put (cs := #[.int .i64 t272, .int .i64 t273, .slice none 0 0, .slice none 0 0]) ?_ 2 _ rfl; (with_reducible repeat (first | apply bN | apply bD | apply bA)); refine blk_put (cs := #[.int .i64 t272, .int .i64 0, .slice none 0 0, .slice none 0 0]) ?_ 1 _ rfl; (with_reducible repeat (first | apply bN | apply bD | apply bA)); refine blk_put (cs := #[.int .i64 0, .int .i64 0, .slice none 0 0, .slice none 0 0]) ?_ 0 _ rfl; (with_reducible repeat (first | apply bN | apply bD | apply bA)); exact BK271.out) Try.underlying42 rfl (by kernel_rfl)) rfl ?_
 exact ⟨_, _, by first | rfl | (simp [errW_none, errW_some] <;> rfl) | (simp [*, errW_none, errW_some] <;> rfl), by (with_reducible repeat (first | apply rA | apply rN | apply rD)); exact Kd.R_mono (Kd.R_far (p := ⟨gb271, 3, none⟩) (Kd.R_far (p := ⟨gb271, 2, none⟩) (Kd.R_far (p := ⟨gb271, 1, none⟩) (Kd.R_far (p := ⟨gb271, 0, none⟩) (Kd.R_types HO276.out BK271.out (by decide)) (fun _ hk => hk.2) _) (fun _ hk => hk.2) _) (fun _ hk => hk.2) _) (fun _ hk => hk.2) _) (fun _ hk => hk.1), by (with_reducible repeat (first | apply rA | apply rN | apply rD)); exact Kd.R_mono (Kd.R_far (p := ⟨gb271, 3, none⟩) (Kd.R_far (p := ⟨gb271, 2, none⟩) (Kd.R_far (p := ⟨gb271, 1, none⟩) (Kd.R_far (p := ⟨gb271, 0, none⟩) (Kd.R_types HO279.out BK271.out (by decide)) (fun _ hk => hk.2) _) (fun _ hk => hk.2) _) (fun _ hk => hk.2) _) (fun _ hk => hk.2) _) (fun _ hk => hk.1), by repeat (first | (with_reducible first | exact HB.out | apply lA | apply lN | apply lD | refine lS ?_ GE270.out | refine lS ?_ GE271.out | refine lS ?_ GE281.out) | exact HB.out)⟩

end Go.Proofs.Ytfolonajajideaa.PAll
