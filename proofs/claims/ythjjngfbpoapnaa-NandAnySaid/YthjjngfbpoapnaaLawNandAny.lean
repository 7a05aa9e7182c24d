/- The row NandAny: the chip, the page and the fate opened, the call the printed one. -/
import Derived.Test.YthjjngfbpoapnaaRows
import Derived.Test.YthjjngfbpoapnaaNandOpen
import Derived.Test.YthjjngfbpoapnaaNandAnyLaw
import Derived.WalkKit
import Derived.ProofKit
import Derived.OpenShut
import Derived.ShutString
import Derived.ChangeOld
import Derived.Below
import Derived.Lib.SmallJoins
namespace Go.Proofs.Ythjjngfbpoapnaa.nandAny
open Go.ChangeShapes Go.WideShapes Go.ChangeAt Go.RowKit Go.Joins
open Go.Proofs.YthjjngfbpoapnaaW.PrintWords Go.Proofs.YthjjngfbpoapnaaW.PrintLast Go.Proofs.YthjjngfbpoapnaaW.PrintMore
theorem own : ownKnob Try.prog.godebug = none := by kernel_rfl
theorem laidOut : laidOutB Try.prog = true := by kernel_rfl
set_option maxRecDepth 100000 in
theorem lifted (os : Os) (started : os.Started) (H : Type) (enc : TypeId × Value → H) :
    ReturnsInHanded {} Try.checked os 5 .any (Rows.nandAnySpec.pre6 enc Try.prog Try.f5 Rows.nandAnyRow.domain false) (Rows.nandAnySpec.post enc Try.prog Try.f5 false true false false) := by
  refine returnsInHanded_of_change (C := Try.checked) own started (by kernel_rfl) Try.func5
    (ChangeSpec.witness6 (enc := enc) (C := Try.checked) false ⟨#[], #[.agg #[.slice none 0 0, .bool false, .bool false, .int .i64 0], .int .i64 0, .int .i64 0, .agg #[.bool false, .string ByteArray.empty, .string ByteArray.empty], .agg #[.int .i64 0, .string ByteArray.empty, .string ByteArray.empty, .int .i64 0]], []⟩ 8 (by kernel_rfl) (by kernel_rfl) (by kernel_rfl) (by kernel_rfl)) ?_
  intro W base args ds gs before hval0 hW _ _
  have hval : ∀ (j : Nat) t v, Try.f5.params[j]? = some t → args[j]? = some v → Value.okWide Try.prog W .any base t v := hval0
  have hW' := hW
  obtain ⟨p, q, hA0, hV, rfl, hfz, hnd⟩ := hW
  have hA : DataW.TrodAll enc Try.prog W 0 (fun _ => true) true Try.f5.params.toList args.toList ds p := hA0
  rw [Try.params5] at hA hval
  obtain ⟨v0, vs0, d0, ds0, p0, q0, hargs, rfl, rfl, h0, r0⟩ := trodAll_cons hA
  obtain ⟨v1, vs1, d1, ds1, p1, q1, rfl, rfl, rfl, h1, r1⟩ := trodAll_cons r0
  obtain ⟨v2, vs2, d2, ds2, p2, q2, rfl, rfl, rfl, h2, r2⟩ := trodAll_cons r1
  obtain ⟨v3, vs3, d3, ds3, p3, q3, rfl, rfl, rfl, h3, r3⟩ := trodAll_cons r2
  obtain ⟨v4, vs4, d4, ds4, p4, q4, rfl, rfl, rfl, h4, r4⟩ := trodAll_cons r3
  obtain ⟨rfl, rfl, rfl⟩ := trodAll_nil r4
  obtain rfl : args = #[v0, v1, v2, v3, v4] := by cases args; simp_all
  obtain ⟨rfl, rfl⟩ := trodVars_none hV
  have k0 := h0
  have lt0 : ∀ x ∈ p0, x.block < W.heap.size := by obtain ⟨m, hm⟩ := k0; exact DataW.trod_lt m _ _ _ hm
  have k3 := h3
  have lt3 : ∀ x ∈ p3, x.block < W.heap.size := by obtain ⟨m, hm⟩ := k3; exact DataW.trod_lt m _ _ _ hm
  have k4 := h4
  have lt4 : ∀ x ∈ p4, x.block < W.heap.size := by obtain ⟨m, hm⟩ := k4; exact DataW.trod_lt m _ _ _ hm
  obtain ⟨c0, c1, c2, c3, y0, y1, y2, y3, m0, rfl, e1, e2, hy0, hy1, hy2, hy3⟩ := open_agg4 Try.underlying27 (by kernel_rfl) (by kernel_rfl) (hval 0 27 v0 rfl rfl) h0
  obtain ⟨A, cap, l, g0, hcap, hmax, hC⟩ := X.open_blocks hy0
  obtain ⟨b1, g1, _⟩ := DataW.trod_bool Try.underlying4 hy1
  obtain ⟨b2, g2, _⟩ := DataW.trod_bool Try.underlying4 hy2
  obtain ⟨b3, g3, _, _⟩ := DataW.trod_int Try.underlying3 hy3
  simp only [List.cons.injEq, and_true] at g0 g1 g2 g3
  subst g0 g1 g2 g3
  obtain ⟨a1, rfl, rfl, rfl, w1⟩ := open_int Try.underlying3 (hval 1 3 v1 rfl rfl) h1
  obtain ⟨a2, rfl, rfl, rfl, w2⟩ := open_int Try.underlying3 (hval 2 3 v2 rfl rfl) h2
  obtain ⟨s0, s1, s2, x0, x1, x2, m3, rfl, e3, e4, hx0, hx1, hx2⟩ := open_agg3 Try.underlying46 (by kernel_rfl) (by kernel_rfl) (hval 3 46 v3 rfl rfl) h3
  obtain ⟨n0, g4, _⟩ := DataW.trod_bool Try.underlying4 hx0
  obtain ⟨n1, g5, _, _⟩ := DataW.trod_string Try.underlying9 hx1
  obtain ⟨n2, g6, _, _⟩ := DataW.trod_string Try.underlying9 hx2
  simp only [List.cons.injEq, and_true] at g4 g5 g6
  subst g4 g5 g6
  obtain ⟨t0, t1, t2, t3, z0, z1, z2, z3, m4, rfl, e5, e6, hz0, hz1, hz2, hz3⟩ := open_agg4 Try.underlying41 (by kernel_rfl) (by kernel_rfl) (hval 4 41 v4 rfl rfl) h4
  obtain ⟨f0, g7, _, _⟩ := DataW.trod_int Try.underlying3 hz0
  obtain ⟨f1, g8, _, _⟩ := DataW.trod_string Try.underlying9 hz1
  obtain ⟨f2, g9, _, _⟩ := DataW.trod_string Try.underlying9 hz2
  obtain ⟨f3, g10, _, _⟩ := DataW.trod_int Try.underlying3 hz3
  simp only [List.cons.injEq, and_true] at g7 g8 g9 g10
  subst g7 g8 g9 g10
  clear hA0 hval0 hval hA h0 h3 h4 e1 e2 e3 e4 e5 e6 hy0 hy1 hy2 hy3 hx0 hx1 hx2 hz0 hz1 hz2 hz3
  obtain ⟨k, hk⟩ := X.law_NandAny l b1 b2 b3 a1 a2 n0 n1 n2 f0 f1 f2 f3
  refine (PAll.clinkerlaw05_NandAny.calls k A cap l b1 b2 b3 a1 a2 n0 n1 n2 f0 f1 f2 f3 true ⟨rfl⟩ W hC hcap hk).mono fun e W' ⟨he, bel⟩ => ?_
  subst he
  exact ⟨_, rfl, _, _, _, [], _, [], hW', trodAll_mk1 (shut_bool Try.underlying4 _), (trodAll_cons_mk (Below.trod laidOut (by kernel_rfl) (of_decide_eq_true (by kernel_rfl)) k0 bel lt0) (trodAll_cons_mk (shut_int Try.underlying3 w1) (trodAll_cons_mk (shut_int Try.underlying3 w2) (trodAll_cons_mk (Below.trod laidOut (by kernel_rfl) (of_decide_eq_true (by kernel_rfl)) k3 bel lt3) (trodAll_cons_mk (Below.trod laidOut (by kernel_rfl) (of_decide_eq_true (by kernel_rfl)) k4 bel lt4) trodAll_mk0))))), rfl, bel.frame _, fun h => by cases h⟩
theorem over : Rows.nandAnyRow.holds Try.pinned (OpenSpec.ofChange Rows.nandAnySpec) :=
  OpenClaim.holds_of_wide 5 Try.f5 rfl rfl rfl rfl rfl rfl rfl ⟨rfl, rfl, rfl, rfl, rfl⟩ rfl rfl rfl rfl rfl (by kernel_rfl) Try.func5 (by kernel_rfl)
    (of_decide_eq_true (by kernel_rfl)) (by unfold Func.isWrapper; first | (rw [if_pos (by decide +kernel)]; kernel_rfl) | (rw [if_neg (by decide +kernel)]; exact ⟨rfl, rfl⟩))
    (fun os started H enc _ => lifted os started H enc)
theorem proved : Rows.NandAnySaid := over
end Go.Proofs.Ythjjngfbpoapnaa.nandAny
namespace Go.Proofs.Ythjjngfbpoapnaa
/-- The row, under a short name, for the claim. -/
theorem nandAny_holds : Rows.NandAnySaid := nandAny.proved
end Go.Proofs.Ythjjngfbpoapnaa
