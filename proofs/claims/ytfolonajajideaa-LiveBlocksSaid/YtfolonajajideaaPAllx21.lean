/- Written by a program of this session (wip/xp) out of the translation: functions in plain Lean, and proofs that the calls come to these. -/
import Derived.Test.YtfolonajajideaaPAllx0
import Derived.Test.YtfolonajajideaaPAllx2
import Derived.Test.YtfolonajajideaaPAllx3
import Derived.Test.YtfolonajajideaaPAllx6
import Derived.Test.YtfolonajajideaaPAllx13
import Derived.Test.YtfolonajajideaaPAllx19
import Derived.Test.YtfolonajajideaaPAllx20
import Derived.Test.YtfolonajajideaaShort
namespace Go.Proofs.Ytfolonajajideaa.PAll
open Go.RowKit Go.Proofs.YtfolonajajideaaW.PrintWords Go.Proofs.YtfolonajajideaaW.PrintLast Go.Proofs.YtfolonajajideaaW.PrintMore
attribute [local go_sem] max2_int min2_int max_two min_two max_three min_three max_four min_four   -- for this text's walks alone
set_option linter.unusedVariables false
set_option linter.unusedSimpArgs false

/-! ### clinkerlaw08_LiveBlocks: function 8 -/
mutual
def clinkerlaw08_LiveBlocks.l0 : Nat → Int → List Int → List Int → Option (Bool)
 | 0, _, _, _ => none
 | k + 1, x7, x402000, x402001 => if x7 < 34 then ((live_Count.f x402000 x402001 x7).bind fun t402 => ((clinkerref08_Count.f k x402000 x402001 x7).bind fun t403 => (if t402 = t403 then (clinkerlaw08_LiveBlocks.l0 k (wrap64 (x7 + 1)) x402000 x402001) else (some false)))) else (clinkerlaw08_LiveBlocks.l1 k (-1) x402000 x402001)
def clinkerlaw08_LiveBlocks.l1 : Nat → Int → List Int → List Int → Option (Bool)
 | 0, _, _, _ => none
 | k + 1, x8, x402000, x402001 => if x8 < 520 then ((live_Live.f k x402000 x402001 x8).bind fun t405 => ((clinkerref08_Live.f k x402000 x402001 x8).bind fun t406 => (if (t405 != t406) = true then (some false) else (clinkerlaw08_LiveBlocks.l1 k (wrap64 (x8 + 3)) x402000 x402001)))) else ((clinkerlaw08_awake.f k).bind fun t404 => (some t404))
end
def clinkerlaw08_LiveBlocks.f (k : Nat) (l0 : List Int) (a1 : Int) : Option (Bool) := (clinkerlaw06_Made.f k l0 5 6).bind fun bt388 => ((clinkerref07_Replay.f k bt388.1 bt388.2.1 bt388.2.2.1 bt388.2.2.2 (Int.tmod (wrap64 (a1)) 65)).bind fun bt394 => (clinkerlaw08_LiveBlocks.l0 k (-1) bt394.1 bt394.2.1))
theorem clinkerlaw08_LiveBlocks.mono_l : ∀ k, (∀ y0 y1 y2, LeO (clinkerlaw08_LiveBlocks.l0 k y0 y1 y2) (clinkerlaw08_LiveBlocks.l0 (k + 1) y0 y1 y2)) ∧ (∀ y0 y1 y2, LeO (clinkerlaw08_LiveBlocks.l1 k y0 y1 y2) (clinkerlaw08_LiveBlocks.l1 (k + 1) y0 y1 y2))
 | 0 => ⟨fun _ _ _ r h => by simp [clinkerlaw08_LiveBlocks.l0] at h, fun _ _ _ r h => by simp [clinkerlaw08_LiveBlocks.l1] at h⟩
 | k + 1 => by
  obtain ⟨ih0, ih1⟩ := clinkerlaw08_LiveBlocks.mono_l k
  refine ⟨?_, ?_⟩
  ·
   intro y0 y1 y2
   unfold clinkerlaw08_LiveBlocks.l0
   repeat' first
   | (with_reducible exact ih0 _ _ _)
   | (with_reducible exact ih1 _ _ _)
   | (with_reducible exact clinkerlaw06_Made.mono _ _ _ _)
   | (with_reducible exact clinkerlaw08_awake.mono _)
   | (with_reducible exact clinkerref07_Replay.mono _ _ _ _ _ _)
   | (with_reducible exact clinkerref08_Count.mono _ _ _ _)
   | (with_reducible exact clinkerref08_Live.mono _ _ _ _)
   | (with_reducible exact live_Live.mono _ _ _ _)
   | (with_reducible exact LeO.refl _)
   | (with_reducible exact LeO.none _)
   | (with_reducible refine LeO.ite ?_ ?_)
   | (with_reducible refine LeO.bind ?_ (fun _ => ?_))
   | exact ih0 _ _ _
   | exact ih1 _ _ _
   | exact clinkerlaw06_Made.mono _ _ _ _
   | exact clinkerlaw08_awake.mono _
   | exact clinkerref07_Replay.mono _ _ _ _ _ _
   | exact clinkerref08_Count.mono _ _ _ _
   | exact clinkerref08_Live.mono _ _ _ _
   | exact live_Live.mono _ _ _ _
   | exact LeO.none _
   | refine LeO.ite ?_ ?_
   | refine LeO.bind ?_ (fun _ => ?_)
  ·
   intro y0 y1 y2
   unfold clinkerlaw08_LiveBlocks.l1
   repeat' first
   | (with_reducible exact ih0 _ _ _)
   | (with_reducible exact ih1 _ _ _)
   | (with_reducible exact clinkerlaw06_Made.mono _ _ _ _)
   | (with_reducible exact clinkerlaw08_awake.mono _)
   | (with_reducible exact clinkerref07_Replay.mono _ _ _ _ _ _)
   | (with_reducible exact clinkerref08_Count.mono _ _ _ _)
   | (with_reducible exact clinkerref08_Live.mono _ _ _ _)
   | (with_reducible exact live_Live.mono _ _ _ _)
   | (with_reducible exact LeO.refl _)
   | (with_reducible exact LeO.none _)
   | (with_reducible refine LeO.ite ?_ ?_)
   | (with_reducible refine LeO.bind ?_ (fun _ => ?_))
   | exact ih0 _ _ _
   | exact ih1 _ _ _
   | exact clinkerlaw06_Made.mono _ _ _ _
   | exact clinkerlaw08_awake.mono _
   | exact clinkerref07_Replay.mono _ _ _ _ _ _
   | exact clinkerref08_Count.mono _ _ _ _
   | exact clinkerref08_Live.mono _ _ _ _
   | exact live_Live.mono _ _ _ _
   | exact LeO.none _
   | refine LeO.ite ?_ ?_
   | refine LeO.bind ?_ (fun _ => ?_)
theorem clinkerlaw08_LiveBlocks.mono : ∀ a0 a1 k, LeO (clinkerlaw08_LiveBlocks.f k a0 a1) (clinkerlaw08_LiveBlocks.f (k + 1) a0 a1) := by
 intro a0 a1 k
 obtain ⟨ih0, ih1⟩ := clinkerlaw08_LiveBlocks.mono_l k
 unfold clinkerlaw08_LiveBlocks.f
 repeat' first
   | (with_reducible exact ih0 _ _ _)
   | (with_reducible exact ih1 _ _ _)
   | (with_reducible exact clinkerlaw06_Made.mono _ _ _ _)
   | (with_reducible exact clinkerlaw08_awake.mono _)
   | (with_reducible exact clinkerref07_Replay.mono _ _ _ _ _ _)
   | (with_reducible exact clinkerref08_Count.mono _ _ _ _)
   | (with_reducible exact clinkerref08_Live.mono _ _ _ _)
   | (with_reducible exact live_Live.mono _ _ _ _)
   | (with_reducible exact LeO.refl _)
   | (with_reducible exact LeO.none _)
   | (with_reducible refine LeO.ite ?_ ?_)
   | (with_reducible refine LeO.bind ?_ (fun _ => ?_))
   | exact ih0 _ _ _
   | exact ih1 _ _ _
   | exact clinkerlaw06_Made.mono _ _ _ _
   | exact clinkerlaw08_awake.mono _
   | exact clinkerref07_Replay.mono _ _ _ _ _ _
   | exact clinkerref08_Count.mono _ _ _ _
   | exact clinkerref08_Live.mono _ _ _ _
   | exact live_Live.mono _ _ _ _
   | exact LeO.none _
   | refine LeO.ite ?_ ?_
   | refine LeO.bind ?_ (fun _ => ?_)
abbrev q0k21 : Array Bool := #[false, false, false, false, false, false, false]
abbrev q1k21 : Array Bool := #[true, true, true, true, true, false, false]
abbrev q2k21 : Array Bool := #[true, true, true, true, true, true, false]
set_option maxHeartbeats 8000000 in
set_option maxRecDepth 100000 in
theorem clinkerlaw08_LiveBlocks.calls (k : Nat) (A0 : Option Addr) (c0 : Nat) (l0 : List Int) (a1 : Int) (r : Bool) (w : World) (hr0 : Kd.C (Kd.int .u16) w A0 l0.length l0) (hc0 : l0.length ≤ c0) (h : clinkerlaw08_LiveBlocks.f k l0 a1 = some r) :
  Calls Try.prog 8 #[.slice A0 l0.length c0, .int .u8 a1] w fun e w' => e = .returned (.bool r) ∧ Below w.heap.size w w' := by
 have hu24 := Try.underlying24
 have HR0 := Aside0.mk hr0
 have HC0 := Aside0.mk hc0
 clear hr0 hc0
 have HB := Aside0.mk (Below.refl w.heap.size w)
 have H : ((clinkerlaw06_Made.f k l0 5 6).bind fun bt388 => ((clinkerref07_Replay.f k bt388.1 bt388.2.1 bt388.2.2.1 bt388.2.2.2 (Int.tmod (wrap64 (a1)) 65)).bind fun bt394 => (clinkerlaw08_LiveBlocks.l0 k (-1) bt394.1 bt394.2.1))) = some r := h
 clear h
 replace H := Option.bind_eq_some_iff.mp H
 obtain ⟨⟨t388, t391, t392, t393⟩, A30, H⟩ := H
 replace H : ((clinkerref07_Replay.f k t388 t391 t392 t393 (Int.tmod (wrap64 (a1)) 65)).bind fun bt394 => (clinkerlaw08_LiveBlocks.l0 k (-1) bt394.1 bt394.2.1)) = some r := H
 have A3 := Aside0.mk A30
 clear A30
 replace H := Option.bind_eq_some_iff.mp H
 obtain ⟨⟨t394, t397, t400⟩, A40, H⟩ := H
 replace H : (clinkerlaw08_LiveBlocks.l0 k (-1) t394 t397) = some r := H
 have A4 := Aside0.mk A40
 clear A40
 have H' := Aside0.mk H
 clear H
 go_enter Try.func8, Try.ntmps8
 go_wp2_with (first | ((with_reducible refine gate_callee (f := 11) rfl ?_); refine goesL_ (some 11) rfl rfl Try.func11 (by kernel_rfl) rfl #[.slice A0 l0.length c0, .int .i64 5, .int .i64 6] rfl (by (try simp only [List.map_toArray, List.map_cons, List.map_nil]); first | done | rfl | (simp only [List.length_drop, List.length_take]; rfl)) ?_; (with_reducible refine (clinkerlaw06_Made.calls k _ _ l0 5 6 t388 t391 t392 t393 _ ?side1 ?side2 A3.out).mono ?_); (case side1 => repeat (first | exact HR0.out | (with_reducible refine Kd.C_alloc ?_ _) | (with_reducible refine Kd.C_drewN ?_ _) | (with_reducible refine Kd.C_drew ?_))); (case side2 => exact HC0.out); rintro e w5 ⟨v389, rfl, ho0, hb⟩; refine ⟨_, rfl, ?_⟩; have HO390 := Aside0.mk (Kd.V_lower (Kd.V_mono (ok' := fun k_ => True) ho0 (fun k_ hk_ => trivial)) bsz); replace HB := Aside0.mk (bst hb); (try clear hb); (try clear hb2); (try clear hk); (try clear hi); (try clear ho0); obtain ⟨Ao6, co6, eo6⟩ := Kd.V_slice HO390.out; subst eo6) | ((with_reducible refine gate_callee (f := 12) rfl ?_); refine goesL_ (some 15) rfl rfl Try.func12 (by kernel_rfl) rfl #[.agg #[.slice Ao6 t388.length co6, .bool t391, .bool t392, .int .i64 t393], .int .i64 (Int.tmod (wrap64 (a1)) 65)] rfl (by (try simp only [List.map_toArray, List.map_cons, List.map_nil]); first | done | rfl | (simp only [List.length_drop, List.length_take]; rfl)) ?_; (with_reducible refine (clinkerref07_Replay.calls k _ _ t388 t391 t392 t393 (Int.tmod (wrap64 (a1)) 65) t394 t397 t400 _ ?side1 ?side2 A4.out).mono ?_); (case side1 => repeat (first | exact (Kd.V_reads' HO390.out).2.2 | (with_reducible refine Kd.C_alloc ?_ _) | (with_reducible refine Kd.C_drewN ?_ _) | (with_reducible refine Kd.C_drew ?_))); (case side2 => exact (Kd.V_reads' HO390.out).2.1); rintro e w7 ⟨v395, v398, rfl, ho0, ho1, hb⟩; refine ⟨_, rfl, ?_⟩; replace HO390 := Aside0.mk (Kd.V_mono (Kd.V_told (Kd.V_told (Kd.V_old (mV HO390.out) hb) (Kd.R_base ho0)) (Kd.R_base ho1)) (fun _ h_ => h_.1)); have HO396 := Aside0.mk (Kd.R_lower ho0 bsz); have HO399 := Aside0.mk (Kd.R_lower ho1 bsz); replace HB := Aside0.mk (bst hb); (try clear hb); (try clear hb2); (try clear hk); (try clear hi); (try clear ho0); (try clear ho1)) | ((with_reducible refine gate_dst (N := 5) rfl ?_); refine box_event ?hg (N := 5) ?hd (cs := #[.slice none 0 0, .slice none 0 0]) (t := 24) ?hr ?_; (case hd => rfl); (case hg => rfl); (case hr => first | (go_simp; done) | (go_simp; rfl)); intro gb401 hg w8 hbox hb; replace HO390 := Aside0.mk (Kd.V_below (Kd.V_elderB (mV HO390.out) gb401 (Nat.le_of_eq hg.symm)) hb); replace HO396 := Aside0.mk (Kd.R_below (mR HO396.out) hb); replace HO399 := Aside0.mk (Kd.R_below (mR HO399.out) hb); have BK401 := Aside0.mk (hbox); have GW401 := Aside0.mk ((bz hg : w.heap.size ≤ gb401)); replace HB := Aside0.mk (bst hb); have GE401 := GW401; clear hb hbox hg; obtain ⟨Ao9, co9, eo9⟩ := Kd.R_slice HO396.out; subst eo9; obtain ⟨hcz10_0, hcz10_1, hfz10_0, hfz10_1⟩ := kc2 BK401.out; obtain ⟨Ao11, co11, eo11⟩ := Kd.R_slice HO399.out; subst eo11))
 go_loopg [7] k (fun kq v7 w' => ∃ (x7_1 : Int), v7 = .int .i64 x7_1 ∧ Aside0 (clinkerlaw08_LiveBlocks.l0 kq x7_1 t394 t397 = some r) ∧ Aside0 (kq ≤ k) ∧ Aside0 (Kd.R (Kd.int .i64) 3 w' w.heap.size (fun k_ => some k_ ≠ ((.slice Ao11 t397.length co11) : Value).ownBlock) (.slice Ao9 t394.length co9) t394) ∧ Aside0 (Kd.R (Kd.int .i64) 3 w' w.heap.size (fun k_ => some k_ ≠ ((.slice Ao9 t394.length co9) : Value).ownBlock) (.slice Ao11 t397.length co11) t397) ∧ Aside0 (w'.heap[gb401]? = some (.cells #[(.slice Ao9 t394.length co9), (.slice Ao11 t397.length co11)] 24 (0, 0))) ∧ Aside0 (Below w.heap.size w w'))
 case atStart => exact ⟨((-1)), (by first | rfl | (simp; done) | (simp [*]; done)), H', ⟨Nat.le_refl _⟩, ⟨by (with_reducible repeat (first | apply rA | apply rN | apply rD)); exact Kd.R_mono (Kd.R_far (p := ⟨gb401, 1, none⟩) (Kd.R_far (p := ⟨gb401, 0, none⟩) (Kd.R_types HO396.out BK401.out (by decide)) (fun _ hk => hk.2) _) (fun _ hk => hk.2) _) (fun _ hk => hk.1)⟩, ⟨by (with_reducible repeat (first | apply rA | apply rN | apply rD)); exact Kd.R_mono (Kd.R_far (p := ⟨gb401, 1, none⟩) (Kd.R_far (p := ⟨gb401, 0, none⟩) (Kd.R_types HO399.out BK401.out (by decide)) (fun _ hk => hk.2) _) (fun _ hk => hk.2) _) (fun _ hk => hk.1)⟩, ⟨by (with_reducible repeat (first | apply bN | apply bD | apply bA)); refine blk_put (cs := #[.slice Ao9 t394.length co9, .slice none 0 0]) ?_ 1 _ rfl; (with_reducible repeat (first | apply bN | apply bD | apply bA)); refine blk_put (cs := #[.slice none 0 0, .slice none 0 0]) ?_ 0 _ rfl; (with_reducible repeat (first | apply bN | apply bD | apply bA)); exact BK401.out⟩, ⟨mH⟩⟩
 case round =>
  clear H'
  try clear c1
  try clear p2
  try clear p6
  try clear c8
  try clear c11
  try clear hcz10_0
  try clear hcz10_1
  try clear hfz10_0
  try clear hfz10_1
  obtain ⟨x7_1, rfl, HA, HK1, HO_402000, HO_402001, BK401, HB⟩ := hrel
  cases gk with
  | zero => exact absurd HA.out (by simp [clinkerlaw08_LiveBlocks.l0])
  | succ k1 =>
   have H := HA.out
   clear HA
   simp only [clinkerlaw08_LiveBlocks.l0] at H
   by_cases c12 : x7_1 < 34
   case pos =>
    rw [if_pos c12] at H
    have c12b0 : decide (x7_1 < 34) = true := decide_eq_true c12
    clear c12
    replace H := Option.bind_eq_some_iff.mp H
    obtain ⟨t402, A130, H⟩ := H
    replace H : ((clinkerref08_Count.f k1 t394 t397 x7_1).bind fun t403 => (if t402 = t403 then (clinkerlaw08_LiveBlocks.l0 k1 (wrap64 (x7_1 + 1)) t394 t397) else (some false))) = some r := H
    have A13 := Aside0.mk A130
    clear A130
    replace H := Option.bind_eq_some_iff.mp H
    obtain ⟨t403, A140, H⟩ := H
    replace H : (if t402 = t403 then (clinkerlaw08_LiveBlocks.l0 k1 (wrap64 (x7_1 + 1)) t394 t397) else (some false)) = some r := H
    have A14 := Aside0.mk A140
    clear A140
    by_cases c15 : t402 = t403
    case neg =>
     rw [if_neg c15] at H
     have c15b0 : (t402 == t403) = false := beq_eq_false_iff_ne.mpr c15
     have c15b1 : (t402 != t403) = true := bne_iff_ne.mpr c15
     obtain rfl := Option.some.inj H
     try go_wp2
     replace HO_402000 := Aside0.mk (Kd.R_drew HO_402000.out)
     replace HO_402001 := Aside0.mk (Kd.R_drew HO_402001.out)
     replace BK401 := Aside0.mk (bD BK401.out)
     replace HB := Aside0.mk (lD HB.out)
     refine start_ (n := 7) (S := fun w' => w'.cell? ⟨gb401, 0, none⟩ = some (.slice Ao9 t394.length co9) ∧ w'.cell? ⟨gb401, 1, none⟩ = some (.slice Ao11 t397.length co11)) (ds := []) q0k21 (by kernel_rfl) rfl rfl ⟨(blk_cell BK401.out 0).trans rfl, (blk_cell BK401.out 1).trans rfl⟩ (fun hHeld => ?_)
     generalize wr.drew = w19 at HO_402000 HO_402001 BK401 HB hHeld ⊢
     refine pb 1 (some 23) ?_
     refine pb 4 (some 26) ?_
     refine tb 0 (some 22) hHeld ?_
     refine tb 3 (some 25) hHeld ?_
     refine one_ (i := 2) (N := some 24) q1k21 rfl rfl (by kernel_rfl) (by decide) (fun K hK => ?_)
     refine goes_ Try.func13 (by kernel_rfl) rfl #[.agg #[.slice Ao9 t394.length co9, .slice Ao11 t397.length co11], .int .i64 x7_1] (by rfl) rfl rfl (by (try simp only [List.map_toArray, List.map_cons, List.map_nil]); first | done | rfl | (simp only [List.length_drop, List.length_take]; rfl)) ?_
     with_reducible refine (live_Count.calls _ _ t394 _ _ t397 x7_1 t402 _ ?side1 ?side2 ?side3 ?side4 A13.out).mono ?_
     (case side1 => repeat (first | exact (Kd.R_reads' HO_402000.out).2.2 | (with_reducible refine Kd.C_alloc ?_ _) | (with_reducible refine Kd.C_drewN ?_ _) | (with_reducible refine Kd.C_drew ?_)))
     (case side2 => exact (Kd.R_reads' HO_402000.out).2.1)
     (case side3 => repeat (first | exact (Kd.R_reads' HO_402001.out).2.2 | (with_reducible refine Kd.C_alloc ?_ _) | (with_reducible refine Kd.C_drewN ?_ _) | (with_reducible refine Kd.C_drew ?_)))
     (case side4 => exact (Kd.R_reads' HO_402001.out).2.1)
     rintro e w20 ⟨rfl, hb⟩
     refine ⟨_, rfl, ?_⟩
     replace HO_402000 := Aside0.mk (Kd.R_below (mR HO_402000.out) hb)
     replace HO_402001 := Aside0.mk (Kd.R_below (mR HO_402001.out) hb)
     replace BK401 := Aside0.mk (bb BK401.out hb)
     replace HB := Aside0.mk (bst hb)
     (try clear hb)
     (try clear hb2)
     (try clear hk)
     (try clear hi)
     refine hK.out _ _ ⟨(blk_cell BK401.out 0).trans rfl, (blk_cell BK401.out 1).trans rfl⟩ (fun hHeld => ?_)
     clear hK K
     refine na (some 24) ?_
     refine one_ (i := 5) (N := some 27) q2k21 rfl rfl (by kernel_rfl) (by decide) (fun K hK => ?_)
     refine goes_ Try.func18 (by kernel_rfl) rfl #[.agg #[.slice Ao9 t394.length co9, .slice Ao11 t397.length co11], .int .i64 x7_1] (by rfl) rfl rfl (by (try simp only [List.map_toArray, List.map_cons, List.map_nil]); first | done | rfl | (simp only [List.length_drop, List.length_take]; rfl)) ?_
     with_reducible refine (clinkerref08_Count.calls k1 _ _ t394 _ _ t397 x7_1 t403 _ ?side1 ?side2 ?side3 ?side4 A14.out).mono ?_
     (case side1 => repeat (first | exact (Kd.R_reads' HO_402000.out).2.2 | (with_reducible refine Kd.C_alloc ?_ _) | (with_reducible refine Kd.C_drewN ?_ _) | (with_reducible refine Kd.C_drew ?_)))
     (case side2 => exact (Kd.R_reads' HO_402000.out).2.1)
     (case side3 => repeat (first | exact (Kd.R_reads' HO_402001.out).2.2 | (with_reducible refine Kd.C_alloc ?_ _) | (with_reducible refine Kd.C_drewN ?_ _) | (with_reducible refine Kd.C_drew ?_)))
     (case side4 => exact (Kd.R_reads' HO_402001.out).2.1)
     rintro e w21 ⟨rfl, hb⟩
     refine ⟨_, rfl, ?_⟩
     replace HO_402000 := Aside0.mk (Kd.R_below (mR HO_402000.out) hb)
     replace HO_402001 := Aside0.mk (Kd.R_below (mR HO_402001.out) hb)
     replace BK401 := Aside0.mk (bb BK401.out hb)
     replace HB := Aside0.mk (bst hb)
     (try clear hb)
     (try clear hb2)
     (try clear hk)
     (try clear hi)
     refine hK.out _ _ ⟨(blk_cell BK401.out 0).trans rfl, (blk_cell BK401.out 1).trans rfl⟩ (fun hHeld => ?_)
     clear hK K
     refine na (some 27) ?_
     refine pb 6 (some 28) ?_
     refine done_ (by kernel_rfl) ?_
     try go_wp2
     go_ret
     exact ⟨by first | rfl | (simp [errW_none, errW_some] <;> rfl) | (simp [*, errW_none, errW_some] <;> rfl), by repeat (first | exact HB.out | apply lA | apply lN | apply lD | refine lS ?_ GE401.out)⟩
    rw [if_pos c15] at H
    have c15b0 : (t402 == t403) = true := beq_iff_eq.mpr c15
    have c15b1 : (t402 != t403) = false := bne_eq_false_iff_eq.mpr c15
    clear c15
    have H' := Aside0.mk H
    clear H
    try go_wp2
    replace HO_402000 := Aside0.mk (Kd.R_drew HO_402000.out)
    replace HO_402001 := Aside0.mk (Kd.R_drew HO_402001.out)
    replace BK401 := Aside0.mk (bD BK401.out)
    replace HB := Aside0.mk (lD HB.out)
    refine start_ (n := 7) (S := fun w' => w'.cell? ⟨gb401, 0, none⟩ = some (.slice Ao9 t394.length co9) ∧ w'.cell? ⟨gb401, 1, none⟩ = some (.slice Ao11 t397.length co11)) (ds := []) q0k21 (by kernel_rfl) rfl rfl ⟨(blk_cell BK401.out 0).trans rfl, (blk_cell BK401.out 1).trans rfl⟩ (fun hHeld => ?_)
    generalize wr.drew = w16 at HO_402000 HO_402001 BK401 HB hHeld ⊢
    refine pb 1 (some 23) ?_
    refine pb 4 (some 26) ?_
    refine tb 0 (some 22) hHeld ?_
    refine tb 3 (some 25) hHeld ?_
    refine one_ (i := 2) (N := some 24) q1k21 rfl rfl (by kernel_rfl) (by decide) (fun K hK => ?_)
    refine goes_ Try.func13 (by kernel_rfl) rfl #[.agg #[.slice Ao9 t394.length co9, .slice Ao11 t397.length co11], .int .i64 x7_1] (by rfl) rfl rfl (by (try simp only [List.map_toArray, List.map_cons, List.map_nil]); first | done | rfl | (simp only [List.length_drop, List.length_take]; rfl)) ?_
    with_reducible refine (live_Count.calls _ _ t394 _ _ t397 x7_1 t402 _ ?side1 ?side2 ?side3 ?side4 A13.out).mono ?_
    (case side1 => repeat (first | exact (Kd.R_reads' HO_402000.out).2.2 | (with_reducible refine Kd.C_alloc ?_ _) | (with_reducible refine Kd.C_drewN ?_ _) | (with_reducible refine Kd.C_drew ?_)))
    (case side2 => exact (Kd.R_reads' HO_402000.out).2.1)
    (case side3 => repeat (first | exact (Kd.R_reads' HO_402001.out).2.2 | (with_reducible refine Kd.C_alloc ?_ _) | (with_reducible refine Kd.C_drewN ?_ _) | (with_reducible refine Kd.C_drew ?_)))
    (case side4 => exact (Kd.R_reads' HO_402001.out).2.1)
    rintro e w17 ⟨rfl, hb⟩
    refine ⟨_, rfl, ?_⟩
    replace HO_402000 := Aside0.mk (Kd.R_below (mR HO_402000.out) hb)
    replace HO_402001 := Aside0.mk (Kd.R_below (mR HO_402001.out) hb)
    replace BK401 := Aside0.mk (bb BK401.out hb)
    replace HB := Aside0.mk (bst hb)
    (try clear hb)
    (try clear hb2)
    (try clear hk)
    (try clear hi)
    refine hK.out _ _ ⟨(blk_cell BK401.out 0).trans rfl, (blk_cell BK401.out 1).trans rfl⟩ (fun hHeld => ?_)
    clear hK K
    refine na (some 24) ?_
    refine one_ (i := 5) (N := some 27) q2k21 rfl rfl (by kernel_rfl) (by decide) (fun K hK => ?_)
    refine goes_ Try.func18 (by kernel_rfl) rfl #[.agg #[.slice Ao9 t394.length co9, .slice Ao11 t397.length co11], .int .i64 x7_1] (by rfl) rfl rfl (by (try simp only [List.map_toArray, List.map_cons, List.map_nil]); first | done | rfl | (simp only [List.length_drop, List.length_take]; rfl)) ?_
    with_reducible refine (clinkerref08_Count.calls k1 _ _ t394 _ _ t397 x7_1 t403 _ ?side1 ?side2 ?side3 ?side4 A14.out).mono ?_
    (case side1 => repeat (first | exact (Kd.R_reads' HO_402000.out).2.2 | (with_reducible refine Kd.C_alloc ?_ _) | (with_reducible refine Kd.C_drewN ?_ _) | (with_reducible refine Kd.C_drew ?_)))
    (case side2 => exact (Kd.R_reads' HO_402000.out).2.1)
    (case side3 => repeat (first | exact (Kd.R_reads' HO_402001.out).2.2 | (with_reducible refine Kd.C_alloc ?_ _) | (with_reducible refine Kd.C_drewN ?_ _) | (with_reducible refine Kd.C_drew ?_)))
    (case side4 => exact (Kd.R_reads' HO_402001.out).2.1)
    rintro e w18 ⟨rfl, hb⟩
    refine ⟨_, rfl, ?_⟩
    replace HO_402000 := Aside0.mk (Kd.R_below (mR HO_402000.out) hb)
    replace HO_402001 := Aside0.mk (Kd.R_below (mR HO_402001.out) hb)
    replace BK401 := Aside0.mk (bb BK401.out hb)
    replace HB := Aside0.mk (bst hb)
    (try clear hb)
    (try clear hb2)
    (try clear hk)
    (try clear hi)
    refine hK.out _ _ ⟨(blk_cell BK401.out 0).trans rfl, (blk_cell BK401.out 1).trans rfl⟩ (fun hHeld => ?_)
    clear hK K
    refine na (some 27) ?_
    refine pb 6 (some 28) ?_
    refine done_ (by kernel_rfl) ?_
    try go_wp2
    go_roundg k1
    case measure => have := HK1.out; omega
    case rel => exact ⟨(wrap64 (x7_1 + 1)), (by first | rfl | (simp; done) | (simp [*]; done)), H', ⟨by have := HK1.out; omega⟩, ⟨mR HO_402000.out⟩, ⟨mR HO_402001.out⟩, ⟨mB BK401.out⟩, ⟨mH⟩⟩
   rw [if_neg c12] at H
   have c12b0 : decide (x7_1 < 34) = false := decide_eq_false c12
   clear c12
   have H' := Aside0.mk H
   clear H
   go_wp2
   go_loopg [8] k1 (fun kq v8 w' => ∃ (x8_2 : Int), v8 = .int .i64 x8_2 ∧ Aside0 (clinkerlaw08_LiveBlocks.l1 kq x8_2 t394 t397 = some r) ∧ Aside0 (kq ≤ k1) ∧ Aside0 (Kd.R (Kd.int .i64) 3 w' w.heap.size (fun k_ => some k_ ≠ ((.slice Ao11 t397.length co11) : Value).ownBlock) (.slice Ao9 t394.length co9) t394) ∧ Aside0 (Kd.R (Kd.int .i64) 3 w' w.heap.size (fun k_ => some k_ ≠ ((.slice Ao9 t394.length co9) : Value).ownBlock) (.slice Ao11 t397.length co11) t397) ∧ Aside0 (w'.heap[gb401]? = some (.cells #[(.slice Ao9 t394.length co9), (.slice Ao11 t397.length co11)] 24 (0, 0))) ∧ Aside0 (Below w.heap.size w w'))
   case atStart => exact ⟨((-1)), (by first | rfl | (simp; done) | (simp [*]; done)), H', ⟨Nat.le_refl _⟩, ⟨mR HO_402000.out⟩, ⟨mR HO_402001.out⟩, ⟨mB BK401.out⟩, ⟨mH⟩⟩
   case round =>
    clear H'
    try clear c1
    try clear p2
    try clear p6
    try clear c8
    try clear c11
    try clear c12
    try clear c12b0
    try clear c13
    try clear c15
    try clear c15b0
    try clear c15b1
    try clear c18
    try clear hcz10_0
    try clear hcz10_1
    try clear hfz10_0
    try clear hfz10_1
    try clear p2
    try clear p6
    obtain ⟨x8_2, rfl, HA, HK2, HO_402000, HO_402001, BK401, HB⟩ := hrel
    cases gk with
    | zero => exact absurd HA.out (by simp [clinkerlaw08_LiveBlocks.l1])
    | succ k2 =>
     have H := HA.out
     clear HA
     simp only [clinkerlaw08_LiveBlocks.l1] at H
     by_cases c22 : x8_2 < 520
     case neg =>
      rw [if_neg c22] at H
      have c22b0 : decide (x8_2 < 520) = false := decide_eq_false c22
      clear c22
      replace H := Option.bind_eq_some_iff.mp H
      obtain ⟨t404, A320, H⟩ := H
      replace H : (some t404) = some r := H
      have A32 := Aside0.mk A320
      clear A320
      obtain rfl := Option.some.inj H
      go_wp2_with (first | ((with_reducible refine gate_callee (f := 9) rfl ?_); refine goesL_ (some 40) rfl rfl Try.func9 (by kernel_rfl) rfl #[] rfl (by (try simp only [List.map_toArray, List.map_cons, List.map_nil]); first | done | rfl | (simp only [List.length_drop, List.length_take]; rfl)) ?_; (with_reducible refine (clinkerlaw08_awake.calls k2  t404 _ A32.out).mono ?_); rintro e w33 ⟨rfl, hb⟩; refine ⟨_, rfl, ?_⟩; replace HO_402000 := Aside0.mk (Kd.R_below (mR HO_402000.out) hb); replace HO_402001 := Aside0.mk (Kd.R_below (mR HO_402001.out) hb); replace BK401 := Aside0.mk (bb BK401.out hb); replace HB := Aside0.mk (bst hb); (try clear hb); (try clear hb2); (try clear hk); (try clear hi)))
      go_ret
      exact ⟨by first | rfl | (simp [errW_none, errW_some] <;> rfl) | (simp [*, errW_none, errW_some] <;> rfl), by repeat (first | exact HB.out | apply lA | apply lN | apply lD | refine lS ?_ GE401.out)⟩
     rw [if_pos c22] at H
     have c22b0 : decide (x8_2 < 520) = true := decide_eq_true c22
     clear c22
     replace H := Option.bind_eq_some_iff.mp H
     obtain ⟨t405, A230, H⟩ := H
     replace H : ((clinkerref08_Live.f k2 t394 t397 x8_2).bind fun t406 => (if (t405 != t406) = true then (some false) else (clinkerlaw08_LiveBlocks.l1 k2 (wrap64 (x8_2 + 3)) t394 t397))) = some r := H
     have A23 := Aside0.mk A230
     clear A230
     replace H := Option.bind_eq_some_iff.mp H
     obtain ⟨t406, A240, H⟩ := H
     replace H : (if (t405 != t406) = true then (some false) else (clinkerlaw08_LiveBlocks.l1 k2 (wrap64 (x8_2 + 3)) t394 t397)) = some r := H
     have A24 := Aside0.mk A240
     clear A240
     by_cases c25 : (t405 != t406) = true
     case pos =>
      rw [if_pos c25] at H
      have c25b0 : (t405 != t406) = true := c25
      (try (have c25b1 : decide (t405 = t406) = false := by simpa using c25))
      (try (have c25b2 : (t405 == t406) = false := by simpa using c25))
      (try (have c25b3 : ¬ (t405 = t406) := by simpa using c25))
      clear c25
      obtain rfl := Option.some.inj H
      try go_wp2
      replace HO_402000 := Aside0.mk (Kd.R_drew HO_402000.out)
      replace HO_402001 := Aside0.mk (Kd.R_drew HO_402001.out)
      replace BK401 := Aside0.mk (bD BK401.out)
      replace HB := Aside0.mk (lD HB.out)
      refine start_ (n := 7) (S := fun w' => w'.cell? ⟨gb401, 0, none⟩ = some (.slice Ao9 t394.length co9) ∧ w'.cell? ⟨gb401, 1, none⟩ = some (.slice Ao11 t397.length co11)) (ds := []) q0k21 (by kernel_rfl) rfl rfl ⟨(blk_cell BK401.out 0).trans rfl, (blk_cell BK401.out 1).trans rfl⟩ (fun hHeld => ?_)
      generalize wr.drew = w26 at HO_402000 HO_402001 BK401 HB hHeld ⊢
      refine pb 1 (some 34) ?_
      refine pb 4 (some 37) ?_
      refine tb 0 (some 33) hHeld ?_
      refine tb 3 (some 36) hHeld ?_
      refine one_ (i := 2) (N := some 35) q1k21 rfl rfl (by kernel_rfl) (by decide) (fun K hK => ?_)
      refine goes_ Try.func14 (by kernel_rfl) rfl #[.agg #[.slice Ao9 t394.length co9, .slice Ao11 t397.length co11], .int .i64 x8_2] (by rfl) rfl rfl (by (try simp only [List.map_toArray, List.map_cons, List.map_nil]); first | done | rfl | (simp only [List.length_drop, List.length_take]; rfl)) ?_
      with_reducible refine (live_Live.calls k2 _ _ t394 _ _ t397 x8_2 t405 _ ?side1 ?side2 ?side3 ?side4 A23.out).mono ?_
      (case side1 => repeat (first | exact (Kd.R_reads' HO_402000.out).2.2 | (with_reducible refine Kd.C_alloc ?_ _) | (with_reducible refine Kd.C_drewN ?_ _) | (with_reducible refine Kd.C_drew ?_)))
      (case side2 => exact (Kd.R_reads' HO_402000.out).2.1)
      (case side3 => repeat (first | exact (Kd.R_reads' HO_402001.out).2.2 | (with_reducible refine Kd.C_alloc ?_ _) | (with_reducible refine Kd.C_drewN ?_ _) | (with_reducible refine Kd.C_drew ?_)))
      (case side4 => exact (Kd.R_reads' HO_402001.out).2.1)
      rintro e w27 ⟨rfl, hb⟩
      refine ⟨_, rfl, ?_⟩
      replace HO_402000 := Aside0.mk (Kd.R_below (mR HO_402000.out) hb)
      replace HO_402001 := Aside0.mk (Kd.R_below (mR HO_402001.out) hb)
      replace BK401 := Aside0.mk (bb BK401.out hb)
      replace HB := Aside0.mk (bst hb)
      (try clear hb)
      (try clear hb2)
      (try clear hk)
      (try clear hi)
      refine hK.out _ _ ⟨(blk_cell BK401.out 0).trans rfl, (blk_cell BK401.out 1).trans rfl⟩ (fun hHeld => ?_)
      clear hK K
      refine na (some 35) ?_
      refine one_ (i := 5) (N := some 38) q2k21 rfl rfl (by kernel_rfl) (by decide) (fun K hK => ?_)
      refine goes_ Try.func19 (by kernel_rfl) rfl #[.agg #[.slice Ao9 t394.length co9, .slice Ao11 t397.length co11], .int .i64 x8_2] (by rfl) rfl rfl (by (try simp only [List.map_toArray, List.map_cons, List.map_nil]); first | done | rfl | (simp only [List.length_drop, List.length_take]; rfl)) ?_
      with_reducible refine (clinkerref08_Live.calls k2 _ _ t394 _ _ t397 x8_2 t406 _ ?side1 ?side2 ?side3 ?side4 A24.out).mono ?_
      (case side1 => repeat (first | exact (Kd.R_reads' HO_402000.out).2.2 | (with_reducible refine Kd.C_alloc ?_ _) | (with_reducible refine Kd.C_drewN ?_ _) | (with_reducible refine Kd.C_drew ?_)))
      (case side2 => exact (Kd.R_reads' HO_402000.out).2.1)
      (case side3 => repeat (first | exact (Kd.R_reads' HO_402001.out).2.2 | (with_reducible refine Kd.C_alloc ?_ _) | (with_reducible refine Kd.C_drewN ?_ _) | (with_reducible refine Kd.C_drew ?_)))
      (case side4 => exact (Kd.R_reads' HO_402001.out).2.1)
      rintro e w28 ⟨rfl, hb⟩
      refine ⟨_, rfl, ?_⟩
      replace HO_402000 := Aside0.mk (Kd.R_below (mR HO_402000.out) hb)
      replace HO_402001 := Aside0.mk (Kd.R_below (mR HO_402001.out) hb)
      replace BK401 := Aside0.mk (bb BK401.out hb)
      replace HB := Aside0.mk (bst hb)
      (try clear hb)
      (try clear hb2)
      (try clear hk)
      (try clear hi)
      refine hK.out _ _ ⟨(blk_cell BK401.out 0).trans rfl, (blk_cell BK401.out 1).trans rfl⟩ (fun hHeld => ?_)
      clear hK K
      refine na (some 38) ?_
      refine pb 6 (some 39) ?_
      refine done_ (by kernel_rfl) ?_
      try go_wp2
      go_ret
      exact ⟨by first | rfl | (simp [errW_none, errW_some] <;> rfl) | (simp [*, errW_none, errW_some] <;> rfl), by repeat (first | exact HB.out | apply lA | apply lN | apply lD | refine lS ?_ GE401.out)⟩
     rw [if_neg c25] at H
     have c25b0 : (t405 != t406) = false := by simpa using c25
     (try (have c25b1 : decide (t405 = t406) = true := by simpa using c25))
     (try (have c25b2 : (t405 == t406) = true := by simpa using c25))
     clear c25
     have H' := Aside0.mk H
     clear H
     try go_wp2
     replace HO_402000 := Aside0.mk (Kd.R_drew HO_402000.out)
     replace HO_402001 := Aside0.mk (Kd.R_drew HO_402001.out)
     replace BK401 := Aside0.mk (bD BK401.out)
     replace HB := Aside0.mk (lD HB.out)
     refine start_ (n := 7) (S := fun w' => w'.cell? ⟨gb401, 0, none⟩ = some (.slice Ao9 t394.length co9) ∧ w'.cell? ⟨gb401, 1, none⟩ = some (.slice Ao11 t397.length co11)) (ds := []) q0k21 (by kernel_rfl) rfl rfl ⟨(blk_cell BK401.out 0).trans rfl, (blk_cell BK401.out 1).trans rfl⟩ (fun hHeld => ?_)
     generalize wr.drew = w29 at HO_402000 HO_402001 BK401 HB hHeld ⊢
     refine pb 1 (some 34) ?_
     refine pb 4 (some 37) ?_
     refine tb 0 (some 33) hHeld ?_
     refine tb 3 (some 36) hHeld ?_
     refine one_ (i := 2) (N := some 35) q1k21 rfl rfl (by kernel_rfl) (by decide) (fun K hK => ?_)
     refine goes_ Try.func14 (by kernel_rfl) rfl #[.agg #[.slice Ao9 t394.length co9, .slice Ao11 t397.length co11], .int .i64 x8_2] (by rfl) rfl rfl (by (try simp only [List.map_toArray, List.map_cons, List.map_nil]); first | done | rfl | (simp only [List.length_drop, List.length_take]; rfl)) ?_
     with_reducible refine (live_Live.calls k2 _ _ t394 _ _ t397 x8_2 t405 _ ?side1 ?side2 ?side3 ?side4 A23.out).mono ?_
     (case side1 => repeat (first | exact (Kd.R_reads' HO_402000.out).2.2 | (with_reducible refine Kd.C_alloc ?_ _) | (with_reducible refine Kd.C_drewN ?_ _) | (with_reducible refine Kd.C_drew ?_)))
     (case side2 => exact (Kd.R_reads' HO_402000.out).2.1)
     (case side3 => repeat (first | exact (Kd.R_reads' HO_402001.out).2.2 | (with_reducible refine Kd.C_alloc ?_ _) | (with_reducible refine Kd.C_drewN ?_ _) | (with_reducible refine Kd.C_drew ?_)))
     (case side4 => exact (Kd.R_reads' HO_402001.out).2.1)
     rintro e w30 ⟨rfl, hb⟩
     refine ⟨_, rfl, ?_⟩
     replace HO_402000 := Aside0.mk (Kd.R_below (mR HO_402000.out) hb)
     replace HO_402001 := Aside0.mk (Kd.R_below (mR HO_402001.out) hb)
     replace BK401 := Aside0.mk (bb BK401.out hb)
     replace HB := Aside0.mk (bst hb)
     (try clear hb)
     (try clear hb2)
     (try clear hk)
     (try clear hi)
     refine hK.out _ _ ⟨(blk_cell BK401.out 0).trans rfl, (blk_cell BK401.out 1).trans rfl⟩ (fun hHeld => ?_)
     clear hK K
     refine na (some 35) ?_
     refine one_ (i := 5) (N := some 38) q2k21 rfl rfl (by kernel_rfl) (by decide) (fun K hK => ?_)
     refine goes_ Try.func19 (by kernel_rfl) rfl #[.agg #[.slice Ao9 t394.length co9, .slice Ao11 t397.length co11], .int .i64 x8_2] (by rfl) rfl rfl (by (try simp only [List.map_toArray, List.map_cons, List.map_nil]); first | done | rfl | (simp only [List.length_drop, List.length_take]; rfl)) ?_
     with_reducible refine (clinkerref08_Live.calls k2 _ _ t394 _ _ t397 x8_2 t406 _ ?side1 ?side2 ?side3 ?side4 A24.out).mono ?_
     (case side1 => repeat (first | exact (Kd.R_reads' HO_402000.out).2.2 | (with_reducible refine Kd.C_alloc ?_ _) | (with_reducible refine Kd.C_drewN ?_ _) | (with_reducible refine Kd.C_drew ?_)))
     (case side2 => exact (Kd.R_reads' HO_402000.out).2.1)
     (case side3 => repeat (first | exact (Kd.R_reads' HO_402001.out).2.2 | (with_reducible refine Kd.C_alloc ?_ _) | (with_reducible refine Kd.C_drewN ?_ _) | (with_reducible refine Kd.C_drew ?_)))
     (case side4 => exact (Kd.R_reads' HO_402001.out).2.1)
     rintro e w31 ⟨rfl, hb⟩
     refine ⟨_, rfl, ?_⟩
     replace HO_402000 := Aside0.mk (Kd.R_below (mR HO_402000.out) hb)
     replace HO_402001 := Aside0.mk (Kd.R_below (mR HO_402001.out) hb)
     replace BK401 := Aside0.mk (bb BK401.out hb)
     replace HB := Aside0.mk (bst hb)
     (try clear hb)
     (try clear hb2)
     (try clear hk)
     (try clear hi)
     refine hK.out _ _ ⟨(blk_cell BK401.out 0).trans rfl, (blk_cell BK401.out 1).trans rfl⟩ (fun hHeld => ?_)
     clear hK K
     refine na (some 38) ?_
     refine pb 6 (some 39) ?_
     refine done_ (by kernel_rfl) ?_
     try go_wp2
     go_roundg k2
     case measure => have := HK1.out; have := HK2.out; omega
     case rel => exact ⟨(wrap64 (x8_2 + 3)), (by first | rfl | (simp; done) | (simp [*]; done)), H', ⟨by have := HK1.out; have := HK2.out; omega⟩, ⟨mR HO_402000.out⟩, ⟨mR HO_402001.out⟩, ⟨mB BK401.out⟩, ⟨mH⟩⟩

/-- THE ONE PURE STATEMENT of clinkerlaw08_LiveBlocks: yours. -/
def clinkerlaw08_LiveBlocks.Pure : Prop := ∀ (l0 : List Int) (a1 : Int), l0.length ≤ maxLen → l0.length * 2 ≤ 140737488351232 → (∀ x ∈ l0, (Lit.int .u16 x).wf = true) → (Lit.int .u8 a1).wf = true → ∃ k, clinkerlaw08_LiveBlocks.f k l0 a1 = some true
theorem clinkerlaw08_LiveBlocks.walk (P : clinkerlaw08_LiveBlocks.Pure) (a0 : Option Addr) (len0 cap0 : Nat) (z0 : List Int) (a1 : Int) (w : World) (w0 : (a0 = none ∧ len0 = 0 ∧ cap0 = 0 ∧ z0 = []) ∨ ∃ x, a0 = some x ∧ len0 ≤ cap0 ∧ cap0 ≤ maxLen ∧ z0.length = cap0 ∧ (∀ i, i < z0.length → w.cell? (x.add i) = some (.int .u16 (z0.getD i 0))) ∧ ∀ n ∈ z0, (Lit.int .u16 n).wf = true) (y0 : len0 * 2 ≤ 140737488351232) (w1 : (Lit.int .u8 a1).wf = true) :
  Calls Try.prog 8 #[.slice a0 len0 cap0, .int .u8 a1] w fun e w' => e = .returned (.bool true) ∧ Below w.heap.size w w' := by
 obtain ⟨l0, rfl, hr0, hm0, hw0, hc0⟩ := ReadsInt.ofRowC w0
 obtain ⟨k, h⟩ := P l0 a1 hm0 y0 hw0 w1
 refine (clinkerlaw08_LiveBlocks.calls k _ _ l0 a1 true w (Kd.C_of_reads (d := (0 : Int)) (h1 := fun _ => rfl) hr0) hc0 h).mono ?_
 rintro e w' ⟨rfl, hd⟩
 exact ⟨rfl, hd⟩

end Go.Proofs.Ytfolonajajideaa.PAll
