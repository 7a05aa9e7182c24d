/- Written by a program of this session (wip/xp) out of the translation: functions in plain Lean, and proofs that the calls come to these. -/
import Derived.Test.YtejhgjmapnmigaaPAllx0
import Derived.Test.YtejhgjmapnmigaaPAllx4
import Derived.Test.YtejhgjmapnmigaaPAllx9
import Derived.Test.YtejhgjmapnmigaaPAllx12
import Derived.Test.YtejhgjmapnmigaaTagKit
namespace Go.Proofs.Ytejhgjmapnmigaa.PAll
open Go.RowKit Go.Proofs.YtejhgjmapnmigaaW.PrintWords Go.Proofs.YtejhgjmapnmigaaW.PrintLast Go.Proofs.YtejhgjmapnmigaaW.PrintMore
attribute [local go_sem] max2_int min2_int max_two min_two max_three min_three max_four min_four   -- for this text's walks alone
set_option linter.unusedVariables false
set_option linter.unusedSimpArgs false

-- XIMPORT TagKit
-- XPART
/-! ### clinkerlaw03_awake: function 11 -/
theorem lit1 {W : World} {g t : Nat} {a : Int} (hk : W.heap[g]? = some (.cells #[.int .i64 a] t (0, 0))) : Kd.C (Kd.int .i64) W (some ⟨g, 0, none⟩) [a].length [a] := by
 refine Kd.C_of_reads (enc := Value.int .i64) (d := (0 : Int)) (h1 := fun _ => rfl) ⟨rfl, by simp, fun _ => ⟨_, rfl, fun j hj => ?_⟩⟩
 have hj2 : j < 1 := hj
 obtain rfl : j = 0 := by omega
 exact (blk_cell hk 0).trans rfl
theorem awake_enc1 : tag_Encode.f 300 1 5 [3] [] (⟨#[97, 98]⟩ : ByteArray) = some ((⟨#[2, 1, 5, 1, 3, 0, 223, 158, 50, 33]⟩ : ByteArray), 0) := by kernel_rfl
theorem awake_dec1 : tag_Decode.f 300 (⟨#[2, 1, 5, 1, 3, 0, 223, 158, 50, 33]⟩ : ByteArray) (⟨#[97, 98]⟩ : ByteArray) = some (1, 5, [3], [], 0) := by kernel_rfl
theorem awake_dec2 : tag_Decode.f 300 (⟨#[2, 1, 5, 1, 3, 0, 223, 158, 50, 33]⟩ : ByteArray) (⟨#[97, 99]⟩ : ByteArray) = some (0, 0, [], [], 30) := by kernel_rfl
theorem awake_enc2 : tag_Encode.f 300 0 0 [] [] (⟨#[]⟩ : ByteArray) = some ((⟨#[]⟩ : ByteArray), 1) := by kernel_rfl
theorem awake_same : clinkerref03_Same.f 300 1 5 [3] [] 1 5 [3] [] = some true := by kernel_rfl
theorem awake_right : tag_Right.f 1 5 [3] [] = some true := by kernel_rfl
def clinkerlaw03_awake.f : Option (Bool) := some true
set_option maxHeartbeats 8000000 in
set_option maxRecDepth 100000 in
theorem clinkerlaw03_awake.calls (r : Bool) (w : World) (h : clinkerlaw03_awake.f = some r) :
  Calls Try.prog 11 #[] w fun e w' => e = .returned (.bool r) ∧ Below w.heap.size w w' := by
 obtain rfl := Option.some.inj h
 clear h
 have s1 : (w.alloc (.cells #[.int .i64 3] 3)).heap.size = w.heap.size + 1 := by simp
 have k0 : ((w.alloc (.cells #[.int .i64 3] 3)).alloc (.cells #[.int .i64 1, .int .i64 5, .slice (some ⟨w.heap.size, 0, none⟩) 1 1, .slice none 0 0] 24)).heap[w.heap.size]? = some (.cells #[.int .i64 3] 3 (0, 0)) := by
  rw [Below.heap_alloc _ _ _ (by omega)]
  exact X.alloc_at w _
 have k1 : ((w.alloc (.cells #[.int .i64 3] 3)).alloc (.cells #[.int .i64 1, .int .i64 5, .slice (some ⟨w.heap.size, 0, none⟩) 1 1, .slice none 0 0] 24)).heap[w.heap.size + 1]? = some (.cells #[.int .i64 1, .int .i64 5, .slice (some ⟨w.heap.size, 0, none⟩) 1 1, .slice none 0 0] 24 (0, 0)) := by
  rw [← s1]
  exact X.alloc_at _ _
 have hB := ((Below.refl w.heap.size w).alloc (Nat.le_refl _) (.cells #[.int .i64 3] 3)).alloc (by simp) (.cells #[.int .i64 1, .int .i64 5, .slice (some ⟨w.heap.size, 0, none⟩) 1 1, .slice none 0 0] 24)
 have hS : ((w.alloc (.cells #[.int .i64 3] 3)).alloc (.cells #[.int .i64 1, .int .i64 5, .slice (some ⟨w.heap.size, 0, none⟩) 1 1, .slice none 0 0] 24)).heap.size = w.heap.size + 1 + 1 := by simp
 have K0 := Aside0.mk k0
 have K1 := Aside0.mk k1
 have HB := Aside0.mk hB
 have HS := Aside0.mk hS
 clear k0 k1 hB hS
 have ga1_ := Aside0.mk True.intro
 have ga2_ := Aside0.mk True.intro
 have ga3_ := Aside0.mk True.intro
 have ga4_ := Aside0.mk True.intro
 have hx6 : (((⟨#[2, 1, 5, 1, 3, 0, 223, 158, 50, 33]⟩ : ByteArray).extract 0 6).toList == [2, 1, 5, 1, 3, 0]) = true := by kernel_rfl
 go_enter Try.func11, Try.ntmps11
 go_wp2_with (first
  | (go_at_call 18; have g_ := ga1_; clear g_ ga1_; refine (tag_Encode.calls 300 1 5 (some ⟨w.heap.size, 0, none⟩) 1 [3] none 0 [] _ _ _ _ (lit1 K0.out) (by simp) (Kd.C_nil _ _) (by simp) awake_enc1).mono ?_; rintro e w1 ⟨rfl, hb⟩; have B1 := Aside0.mk hb; clear hb)
  | (go_at_call 15; have g_ := ga2_; clear g_ ga2_; refine (tag_Decode.calls 300 _ _ _ _ _ _ _ _ awake_dec1).mono ?_; rintro e w2 ⟨v2, v3, rfl, hv2, hv3, hb⟩; obtain ⟨A2, c2, rfl⟩ := Kd.R_slice hv2; obtain ⟨A3, c3, rfl⟩ := Kd.R_slice hv3; have B2 := Aside0.mk (B1.out.trans (hb.mono B1.out.size)); have V2 := Aside0.mk (Kd.R_alloc hv2 (.cells #[.int .i64 1, .int .i64 5, .slice A2 1 c2, .slice A3 0 c3] 24)); have V3 := Aside0.mk (Kd.R_alloc hv3 (.cells #[.int .i64 1, .int .i64 5, .slice A2 1 c2, .slice A3 0 c3] 24)); have Q2 := Aside0.mk (X.alloc_at w2 (.cells #[.int .i64 1, .int .i64 5, .slice A2 1 c2, .slice A3 0 c3] 24)); have B3 := Aside0.mk (B2.out.alloc B2.out.size (.cells #[.int .i64 1, .int .i64 5, .slice A2 1 c2, .slice A3 0 c3] 24)); clear hb hv2 hv3)
  | (go_at_call 15; have g_ := ga3_; clear g_ ga3_; refine (tag_Decode.calls 300 _ _ _ _ _ _ _ _ awake_dec2).mono ?_; rintro e w4 ⟨v4, v5, rfl, hv4, hv5, hb⟩; obtain ⟨A4, c4, rfl⟩ := Kd.R_slice hv4; obtain ⟨A5, c5, rfl⟩ := Kd.R_slice hv5; have B5 := Aside0.mk (hb.alloc hb.size (.cells #[.int .i64 0, .int .i64 0, .slice A4 0 c4, .slice A5 0 c5] 24)); clear hb hv4 hv5)
  | (go_at_call 18; have g_ := ga4_; clear g_ ga4_; refine (tag_Encode.calls 300 0 0 none 0 [] none 0 [] _ _ _ _ (Kd.C_nil _ _) (by simp) (Kd.C_nil _ _) (by simp) awake_enc2).mono ?_; rintro e w6 ⟨rfl, hb⟩; have B6 := Aside0.mk (B5.out.trans (hb.mono B5.out.size)); have B7 := Aside0.mk (B3.out.trans (B6.out.mono B3.out.size)); have n0 := HS.out; have q1 := (B7.out.block (w.heap.size + 1) (by omega)).trans K1.out; have q2 := (B6.out.block w2.heap.size (by simp)).trans Q2.out; have K7 := Aside0.mk ((B7.out.block w.heap.size (by omega)).trans K0.out); have z0 := (blk_cell q1 0).trans rfl; have z1 := (blk_cell q1 1).trans rfl; have z2 := (blk_cell q1 2).trans rfl; have z3 := (blk_cell q1 3).trans rfl; have y0 := (blk_cell q2 0).trans rfl; have y1 := (blk_cell q2 1).trans rfl; have y2 := (blk_cell q2 2).trans rfl; have y3 := (blk_cell q2 3).trans rfl; have K9 := Aside0.mk q1; clear q1 q2 hb)
  | (go_at_call 17; refine (clinkerref03_Same.calls 300 1 5 A2 c2 [3] A3 c3 [] 1 5 (some ⟨w.heap.size, 0, none⟩) 1 [3] none 0 [] _ _ (Kd.C_below (Kd.R_reads' V2.out).2.2 B6.out) (Kd.R_reads' V2.out).2.1 (Kd.C_below (Kd.R_reads' V3.out).2.2 B6.out) (Kd.R_reads' V3.out).2.1 (lit1 K7.out) (by simp) (Kd.C_nil _ _) (by simp) awake_same).mono ?_; rintro e w8 ⟨rfl, hb⟩; have B8 := Aside0.mk (B7.out.trans (hb.mono B7.out.size)); have K8 := Aside0.mk ((B8.out.block w.heap.size (by omega)).trans K0.out); have q1 := (B8.out.block (w.heap.size + 1) (by omega)).trans K1.out; have z0 := (blk_cell q1 0).trans rfl; have z1 := (blk_cell q1 1).trans rfl; have z2 := (blk_cell q1 2).trans rfl; have z3 := (blk_cell q1 3).trans rfl; clear hb q1)
  | (go_at_call 20; refine (tag_Right.calls 1 5 (some ⟨w.heap.size, 0, none⟩) 1 [3] none 0 [] _ _ (lit1 K8.out) (by simp) (Kd.C_nil _ _) (by simp) awake_right).mono ?_; rintro e w9 ⟨rfl, hb⟩; have B9 := Aside0.mk (B8.out.trans (hb.mono B8.out.size)); clear hb))
 go_ret
 exact ⟨rfl, HB.out.trans (B9.out.mono HB.out.size)⟩

end Go.Proofs.Ytejhgjmapnmigaa.PAll
