/- The row LookAny: a page by value, opened; the call is the printed one. -/
import Derived.Test.YtpbmcienlbdcbaaRows
import Derived.Test.YtpbmcienlbdcbaaPAllx18
import Derived.Test.YtpbmcienlbdcbaaLookLaw
import Derived.WalkKit
import Derived.ProofKit
import Derived.OpenShut
import Derived.ShutString
import Derived.ChangeOld
import Derived.Below
import Derived.Lib.SmallJoins
namespace Go.Proofs.Ytpbmcienlbdcbaa.X
open Go.RowKit Go.Proofs.Ytpbmcienlbdcbaa.PAll Go.Proofs.YtpbmcienlbdcbaaW.PrintWords Go.Proofs.YtpbmcienlbdcbaaW.PrintLast Go.Proofs.YtpbmcienlbdcbaaW.PrintMore
theorem law_LookAny (w : Bool) (d t : ByteArray) (ht : t.size ≤ 9223372036854775807) : ∃ k, clinkerlaw04_LookAny.f k w d t = some true := by
  refine Ev.rounds (g := fun k => clinkerlaw04_LookAny.f k w d t) ?_
  unfold clinkerlaw04_LookAny.f
  by_cases h : wrap64 ((d.size : Int) + (t.size : Int)) > 300
  · refine Ev.ite_pos h ?_
    rw [show clinkerlaw04_awake.f = some true from rfl]
    exact Ev.pure_ (Ev.now true)
  · exact Ev.ite_neg h (look_same w d t ht)
end Go.Proofs.Ytpbmcienlbdcbaa.X
namespace Go.Proofs.Ytpbmcienlbdcbaa.lookAny
open Go.ChangeShapes Go.WideShapes Go.ChangeAt Go.RowKit Go.Joins
open Go.Proofs.YtpbmcienlbdcbaaW.PrintWords Go.Proofs.YtpbmcienlbdcbaaW.PrintLast Go.Proofs.YtpbmcienlbdcbaaW.PrintMore
theorem own : ownKnob Try.prog.godebug = none := by kernel_rfl
theorem laidOut : laidOutB Try.prog = true := by kernel_rfl
set_option maxRecDepth 100000 in
theorem lifted (os : Os) (started : os.Started) (H : Type) (enc : TypeId × Value → H) :
    ReturnsInHanded {} Try.checked os 3 .any (Rows.lookAnySpec.pre6 enc Try.prog Try.f3 Rows.lookAnyRow.domain false) (Rows.lookAnySpec.post enc Try.prog Try.f3 false true false false) := by
  refine returnsInHanded_of_change (C := Try.checked) own started (by kernel_rfl) Try.func3
    (ChangeSpec.witness6 (enc := enc) (C := Try.checked) false ⟨#[], #[.agg #[.bool false, .string ByteArray.empty, .string ByteArray.empty]], []⟩ 8 (by kernel_rfl) (by kernel_rfl) (by kernel_rfl) (by kernel_rfl)) ?_
  intro W base args ds gs before hval0 hW _ _
  have hval : ∀ (j : Nat) t v, Try.f3.params[j]? = some t → args[j]? = some v → Value.okWide Try.prog W .any base t v := hval0
  have hW' := hW
  obtain ⟨p, q, hA0, hV, rfl, hfz, hnd⟩ := hW
  have hA : DataW.TrodAll enc Try.prog W 0 (fun _ => true) true Try.f3.params.toList args.toList ds p := hA0
  rw [Try.params3] at hA hval
  obtain ⟨v0, vs0, d0, ds0, p0, q0, hargs, rfl, rfl, h0, r0⟩ := trodAll_cons hA
  obtain ⟨rfl, rfl, rfl⟩ := trodAll_nil r0
  obtain rfl : args = #[v0] := by cases args; simp_all
  obtain ⟨rfl, rfl⟩ := trodVars_none hV
  have k0 := h0
  have lt0 : ∀ x ∈ p0, x.block < W.heap.size := by obtain ⟨m, hm⟩ := k0; exact DataW.trod_lt m _ _ _ hm
  obtain ⟨c1, c2, c3, y1, y2, y3, m, rfl, e1, e2, hy1, hy2, hy3⟩ := open_agg3 Try.underlying23 (by kernel_rfl) (by kernel_rfl) (hval 0 23 v0 rfl rfl) h0
  obtain ⟨b1, g1, rfl⟩ := DataW.trod_bool Try.underlying4 hy1
  obtain ⟨b2, g2, rfl, w2⟩ := DataW.trod_string Try.underlying9 hy2
  obtain ⟨b3, g3, rfl, w3⟩ := DataW.trod_string Try.underlying9 hy3
  simp at g1 g2 g3
  subst g1 g2 g3
  clear hA0 hval0 e1 e2 hy1 hy2 hy3
  obtain ⟨k, hk⟩ := X.law_LookAny b1 b2 b3 w3
  refine (PAll.clinkerlaw04_LookAny.calls k b1 b2 b3 true W hk).mono fun e W' ⟨he, bel⟩ => ?_
  subst he
  exact ⟨_, rfl, _, _, _, [], _, [], hW', trodAll_mk1 (shut_bool Try.underlying4 _), (trodAll_cons_mk (Below.trod laidOut (by kernel_rfl) (of_decide_eq_true (by kernel_rfl)) k0 bel lt0) trodAll_mk0), rfl, bel.frame _, fun h => by cases h⟩
theorem over : Rows.lookAnyRow.holds Try.pinned (OpenSpec.ofChange Rows.lookAnySpec) :=
  OpenClaim.holds_of_wide 3 Try.f3 rfl rfl rfl rfl rfl rfl rfl ⟨rfl, rfl, rfl, rfl, rfl⟩ rfl rfl rfl rfl rfl (by kernel_rfl) Try.func3 (by kernel_rfl)
    (of_decide_eq_true (by kernel_rfl)) (by unfold Func.isWrapper; first | (rw [if_pos (by decide +kernel)]; kernel_rfl) | (rw [if_neg (by decide +kernel)]; exact ⟨rfl, rfl⟩))
    (fun os started H enc _ => lifted os started H enc)
theorem proved : Rows.LookAnySaid := over
end Go.Proofs.Ytpbmcienlbdcbaa.lookAny
namespace Go.Proofs.Ytpbmcienlbdcbaa
/-- The row, under a short name, for the claim. -/
theorem lookAny_holds : Rows.LookAnySaid := lookAny.proved
end Go.Proofs.Ytpbmcienlbdcbaa
