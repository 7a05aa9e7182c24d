/- Written by a program of this session (wip/xp) out of the translation: functions in plain Lean, and proofs that the calls come to these. -/
import Derived.Test.YtpbmcienlbdcbaaPAllx0
import Derived.Test.YtpbmcienlbdcbaaPAllx12
import Derived.Test.YtpbmcienlbdcbaaTagKit
namespace Go.Proofs.Ytpbmcienlbdcbaa.PAll
open Go.RowKit Go.Proofs.YtpbmcienlbdcbaaW.PrintWords Go.Proofs.YtpbmcienlbdcbaaW.PrintLast Go.Proofs.YtpbmcienlbdcbaaW.PrintMore
attribute [local go_sem] max2_int min2_int max_two min_two max_three min_three max_four min_four   -- for this text's walks alone
set_option linter.unusedVariables false
set_option linter.unusedSimpArgs false

-- XIMPORT TagKit
-- XPART
/-! ### clinkerlaw04_awake: function 7 -/
theorem lit1 {W : World} {g t : Nat} {a : Int} (hk : W.heap[g]? = some (.cells #[.int .i64 a] t (0, 0))) : Kd.C (Kd.int .i64) W (some ⟨g, 0, none⟩) [a].length [a] := by
 refine Kd.C_of_reads (enc := Value.int .i64) (d := (0 : Int)) (h1 := fun _ => rfl) ⟨rfl, by simp, fun _ => ⟨_, rfl, fun j hj => ?_⟩⟩
 have hj2 : j < 1 := hj
 obtain rfl : j = 0 := by omega
 exact (blk_cell hk 0).trans rfl
theorem awake_mk1 : look_Make.f 300 (⟨#[120]⟩ : ByteArray) 1 5 [3] [] = some (true, (⟨#[120]⟩ : ByteArray), (⟨#[2, 1, 5, 1, 3, 0, 176, 178, 107, 237]⟩ : ByteArray), 0) := by kernel_rfl
theorem awake_lk1 : look_Look.f 300 true (⟨#[120]⟩ : ByteArray) (⟨#[2, 1, 5, 1, 3, 0, 176, 178, 107, 237]⟩ : ByteArray) = some (1, 1, 5, [3], []) := by kernel_rfl
theorem awake_lk2 : look_Look.f 300 false (⟨#[]⟩ : ByteArray) (⟨#[]⟩ : ByteArray) = some (0, 0, 0, [], []) := by kernel_rfl
theorem awake_lk3 : look_Look.f 300 true (⟨#[]⟩ : ByteArray) (⟨#[]⟩ : ByteArray) = some (2, 0, 0, [], []) := by kernel_rfl
theorem awake_mk2 : look_Make.f 300 (⟨#[]⟩ : ByteArray) 0 0 [] [] = some (false, (⟨#[]⟩ : ByteArray), (⟨#[]⟩ : ByteArray), 1) := by kernel_rfl
theorem awake_same : clinkerref03_Same.f 300 1 5 [3] [] 1 5 [3] [] = some true := by kernel_rfl
def clinkerlaw04_awake.f : Option (Bool) := some true
set_option maxHeartbeats 8000000 in
set_option maxRecDepth 100000 in
theorem clinkerlaw04_awake.calls (r : Bool) (w : World) (h : clinkerlaw04_awake.f = some r) :
  Calls Try.prog 7 #[] w fun e w' => e = .returned (.bool r) ∧ Below w.heap.size w w' := by
 obtain rfl := Option.some.inj h
 clear h
 have s1 : (w.alloc (.cells #[.int .i64 3] 3)).heap.size = w.heap.size + 1 := by simp
 have k0 : ((w.alloc (.cells #[.int .i64 3] 3)).alloc (.cells #[.int .i64 1, .int .i64 5, .slice (some ⟨w.heap.size, 0, none⟩) 1 1, .slice none 0 0] 27)).heap[w.heap.size]? = some (.cells #[.int .i64 3] 3 (0, 0)) := by
  rw [Below.heap_alloc _ _ _ (by omega)]
  exact X.alloc_at w _
 have k1 : ((w.alloc (.cells #[.int .i64 3] 3)).alloc (.cells #[.int .i64 1, .int .i64 5, .slice (some ⟨w.heap.size, 0, none⟩) 1 1, .slice none 0 0] 27)).heap[w.heap.size + 1]? = some (.cells #[.int .i64 1, .int .i64 5, .slice (some ⟨w.heap.size, 0, none⟩) 1 1, .slice none 0 0] 27 (0, 0)) := by
  rw [← s1]
  exact X.alloc_at _ _
 have hB := ((Below.refl w.heap.size w).alloc (Nat.le_refl _) (.cells #[.int .i64 3] 3)).alloc (by simp) (.cells #[.int .i64 1, .int .i64 5, .slice (some ⟨w.heap.size, 0, none⟩) 1 1, .slice none 0 0] 27)
 have hS : ((w.alloc (.cells #[.int .i64 3] 3)).alloc (.cells #[.int .i64 1, .int .i64 5, .slice (some ⟨w.heap.size, 0, none⟩) 1 1, .slice none 0 0] 27)).heap.size = w.heap.size + 1 + 1 := by simp
 have K0 := Aside0.mk k0
 have K1 := Aside0.mk k1
 have HB := Aside0.mk hB
 have HS := Aside0.mk hS
 clear k0 k1 hB hS
 have ga1_ := Aside0.mk True.intro
 have ga2_ := Aside0.mk True.intro
 have ga3_ := Aside0.mk True.intro
 have ga4_ := Aside0.mk True.intro
 have ga5_ := Aside0.mk True.intro
 have hx : ((⟨#[120]⟩ : ByteArray).toList == [120]) = true := by kernel_rfl
 go_enter Try.func7, Try.ntmps7
 go_wp2_with (first
  | (go_at_call 11; have g_ := ga1_; clear g_ ga1_; refine (look_Make.calls 300 (⟨#[120]⟩ : ByteArray) 1 5 (some ⟨w.heap.size, 0, none⟩) 1 [3] none 0 [] _ _ _ _ _ (lit1 K0.out) (by simp) (Kd.C_nil _ _) (by simp) awake_mk1).mono ?_; rintro e w1 ⟨rfl, hb⟩; have B1 := Aside0.mk hb; have P3 := Aside0.mk (X.alloc_at w1 (.cells #[.bool true, .string (⟨#[120]⟩ : ByteArray), .string (⟨#[2, 1, 5, 1, 3, 0, 176, 178, 107, 237]⟩ : ByteArray)] 23)); have B3 := Aside0.mk (hb.alloc hb.size (.cells #[.bool true, .string (⟨#[120]⟩ : ByteArray), .string (⟨#[2, 1, 5, 1, 3, 0, 176, 178, 107, 237]⟩ : ByteArray)] 23)); have p3 := P3.out; have q0 := (blk_cell p3 0).trans rfl; have q1 := (blk_cell p3 1).trans rfl; have q2 := (blk_cell p3 2).trans rfl; clear hb p3)
  | (go_at_call 8; have g_ := ga2_; clear g_ ga2_; refine (look_Look.calls 300 true (⟨#[120]⟩ : ByteArray) (⟨#[2, 1, 5, 1, 3, 0, 176, 178, 107, 237]⟩ : ByteArray) _ _ _ _ _ _ awake_lk1).mono ?_; rintro e w2 ⟨v2, v3, rfl, hv2, hv3, hb⟩; obtain ⟨A2, c2, rfl⟩ := Kd.R_slice hv2; obtain ⟨A3, c3, rfl⟩ := Kd.R_slice hv3; have C2 := Aside0.mk hb; have V2 := Aside0.mk (Kd.R_alloc hv2 (.cells #[.int .i64 1, .int .i64 5, .slice A2 1 c2, .slice A3 0 c3] 27)); have V3 := Aside0.mk (Kd.R_alloc hv3 (.cells #[.int .i64 1, .int .i64 5, .slice A2 1 c2, .slice A3 0 c3] 27)); have Q2 := Aside0.mk (X.alloc_at w2 (.cells #[.int .i64 1, .int .i64 5, .slice A2 1 c2, .slice A3 0 c3] 27)); have C4 := Aside0.mk (hb.alloc hb.size (.cells #[.int .i64 1, .int .i64 5, .slice A2 1 c2, .slice A3 0 c3] 27)); clear hb hv2 hv3 q0 q1 q2)
  | (go_at_call 8; have g_ := ga3_; clear g_ ga3_; refine (look_Look.calls 300 false (⟨#[]⟩ : ByteArray) (⟨#[]⟩ : ByteArray) _ _ _ _ _ _ awake_lk2).mono ?_; rintro e w4 ⟨v4, v5, rfl, hv4, hv5, hb⟩; obtain ⟨A4, c4, rfl⟩ := Kd.R_slice hv4; obtain ⟨A5, c5, rfl⟩ := Kd.R_slice hv5; have B5 := Aside0.mk (hb.alloc hb.size (.cells #[.int .i64 0, .int .i64 0, .slice A4 0 c4, .slice A5 0 c5] 27)); clear hb hv4 hv5)
  | (go_at_call 8; have g_ := ga4_; clear g_ ga4_; refine (look_Look.calls 300 true (⟨#[]⟩ : ByteArray) (⟨#[]⟩ : ByteArray) _ _ _ _ _ _ awake_lk3).mono ?_; rintro e w6 ⟨v6, v7, rfl, hv6, hv7, hb⟩; obtain ⟨A6, c6, rfl⟩ := Kd.R_slice hv6; obtain ⟨A7, c7, rfl⟩ := Kd.R_slice hv7; have B7 := Aside0.mk (hb.alloc hb.size (.cells #[.int .i64 0, .int .i64 0, .slice A6 0 c6, .slice A7 0 c7] 27)); clear hb hv6 hv7)
  | (go_at_call 11; have g_ := ga5_; clear g_ ga5_; refine (look_Make.calls 300 (⟨#[]⟩ : ByteArray) 0 0 none 0 [] none 0 [] _ _ _ _ _ (Kd.C_nil _ _) (by simp) (Kd.C_nil _ _) (by simp) awake_mk2).mono ?_; rintro e w8 ⟨rfl, hb⟩; have hb9 := hb.alloc hb.size (.cells #[.bool false, .string (⟨#[]⟩ : ByteArray), .string (⟨#[]⟩ : ByteArray)] 23); have D4 := Aside0.mk (B5.out.trans ((B7.out.trans (hb9.mono B7.out.size)).mono B5.out.size)); have D3 := Aside0.mk (C4.out.trans (D4.out.mono C4.out.size)); have D2 := Aside0.mk (B3.out.trans (D3.out.mono B3.out.size)); have n0 := HS.out; have r1 := (D2.out.block (w.heap.size + 1) (by omega)).trans K1.out; have K7 := Aside0.mk ((D2.out.block w.heap.size (by omega)).trans K0.out); have r3 := (D3.out.block w1.heap.size (by simp)).trans P3.out; have r2 := (D4.out.block w2.heap.size (by simp)).trans Q2.out; have z0 := (blk_cell r1 0).trans rfl; have z1 := (blk_cell r1 1).trans rfl; have z2 := (blk_cell r1 2).trans rfl; have z3 := (blk_cell r1 3).trans rfl; have y0 := (blk_cell r2 0).trans rfl; have y1 := (blk_cell r2 1).trans rfl; have y2 := (blk_cell r2 2).trans rfl; have y3 := (blk_cell r2 3).trans rfl; have x0 := (blk_cell r3 0).trans rfl; have x1 := (blk_cell r3 1).trans rfl; clear r1 r2 r3 hb hb9)
  | (go_at_call 10; refine (clinkerref03_Same.calls 300 1 5 A2 c2 [3] A3 c3 [] 1 5 (some ⟨w.heap.size, 0, none⟩) 1 [3] none 0 [] _ _ (Kd.C_below (Kd.R_reads' V2.out).2.2 D4.out) (Kd.R_reads' V2.out).2.1 (Kd.C_below (Kd.R_reads' V3.out).2.2 D4.out) (Kd.R_reads' V3.out).2.1 (lit1 K7.out) (by simp) (Kd.C_nil _ _) (by simp) awake_same).mono ?_; rintro e w9 ⟨rfl, hb⟩; have B9 := Aside0.mk (D2.out.trans (hb.mono D2.out.size)); clear hb))
 go_ret
 exact ⟨rfl, HB.out.trans (B9.out.mono HB.out.size)⟩

end Go.Proofs.Ytpbmcienlbdcbaa.PAll
