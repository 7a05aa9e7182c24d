/- The row ModelAny: a row of texts and a command, by value, opened; the call is the printed one. -/
import Derived.Test.YtcahhknehmhlaaaRows
import Derived.Test.YtcahhknehmhlaaaModelLaws
import Derived.WalkKit
import Derived.ProofKit
import Derived.OpenShut
import Derived.ShutString
import Derived.ChangeOld
import Derived.Below
import Derived.SliceStrings
import Derived.Lib.SmallJoins
namespace Go.Proofs.Ytcahhknehmhlaaa.X
open Go.RowKit Go.Proofs.Ytcahhknehmhlaaa.PAll Go.Proofs.YtcahhknehmhlaaaW.PrintWords Go.Proofs.YtcahhknehmhlaaaW.PrintLast Go.Proofs.YtcahhknehmhlaaaW.PrintMore
theorem rnew_l0 (n : Int) : ∀ (d i : Nat), i + d = (min n.toNat 64) → Ev (fun k => clinkerref13_New.l0 k n (List.replicate i ByteArray.empty) (i : Int)) (List.replicate (min n.toNat 64) ByteArray.empty)
  | 0, i, hi => by
    obtain rfl : i = min n.toNat 64 := by omega
    refine Ev.step (fun k => clinkerref13_New.l0.eq_2 ..) ?_
    by_cases h : ((min n.toNat 64 : Nat) : Int) < n
    · exact Ev.ite_pos h (Ev.ite_neg (by omega) (Ev.now _))
    · exact Ev.ite_neg h (Ev.now _)
  | d + 1, i, hi => by
    have ih := rnew_l0 n d (i + 1) (by omega)
    rw [List.replicate_succ'] at ih
    refine Ev.step (fun k => clinkerref13_New.l0.eq_2 ..) (Ev.ite_pos (by omega) (Ev.ite_pos (by omega) ?_))
    rw [wrap_succ (by omega), List.length_replicate]
    exact Ev.ite_pos (by omega) ih
theorem pnew_eq (n : Int) : model_New.f n = some (List.replicate (min n.toNat 64) ByteArray.empty) := by
  unfold model_New.f mn mx
  have e : (if 64 < (if n < 0 then 0 else n) then (64 : Int) else (if n < 0 then 0 else n)) = ((min n.toNat 64 : Nat) : Int) := by
    split <;> split <;> omega
  rw [e, if_pos (by omega), Int.toNat_natCast, if_pos (by omega)]
  rfl
theorem law_ModelAny (l : List ByteArray) (kind first count : Int) (data : List ByteArray) (n m : Int) : ∃ k, clinkerlaw13_ModelAny.f k l kind first count data n m = some true := by
  refine Ev.rounds (g := fun k => clinkerlaw13_ModelAny.f k l kind first count data n m) ?_
  by_cases h : (l.length : Int) > 64
  · exact Ev.ite_pos h (Ev.step (fun k => clinkerlaw13_ModelAny.j0.eq_2 ..) (Ev.ite_pos rfl (Ev.bind awake_ev (Ev.now true))))
  · refine Ev.ite_neg h (Ev.step (fun k => clinkerlaw13_ModelAny.j0.eq_2 ..) ?_)
    by_cases h2 : (data.length : Int) > 100
    · exact Ev.ite_pos (decide_eq_true h2) (Ev.bind awake_ev (Ev.now true))
    · refine Ev.ite_neg (not_dec h2) (Ev.bind awake_ev (Ev.ite_pos rfl (Ev.bind (same_ev l kind first count data n (by omega)) (Ev.ite_pos rfl ?_))))
      unfold model_Check.f clinkerref13_Check.f
      rw [pnew_eq]
      exact Ev.pure_ (Ev.pure_ (Ev.ite_pos rfl (Ev.pure_ (Ev.bind (rnew_l0 m (min m.toNat 64) 0 (by omega)) (Ev.bind (sames_ev _ (by rw [List.length_replicate]; omega)) (Ev.now true))))))
end Go.Proofs.Ytcahhknehmhlaaa.X
namespace Go.Proofs.Ytcahhknehmhlaaa.modelAny
open Go.ChangeShapes Go.WideShapes Go.ChangeAt Go.RowKit Go.Joins
open Go.Proofs.YtcahhknehmhlaaaW.PrintWords Go.Proofs.YtcahhknehmhlaaaW.PrintLast Go.Proofs.YtcahhknehmhlaaaW.PrintMore
open Go.ChangeMaps (open_string shut_string)
theorem own : ownKnob Try.prog.godebug = none := by kernel_rfl
theorem laidOut : laidOutB Try.prog = true := by kernel_rfl
/-- A row of texts as the walk wants it. -/
theorem row_open {H : Type} {enc : TypeId × Value → H} {W : World} {fuel : Nat} {c : Value} {y : DataW H × List MemPlace} {t e : TypeId}
    (ht : Try.prog.underlying t = some (.slice e)) (he : Try.prog.underlying e = some .string) (hc : Try.prog.cellsOf e = 1)
    (h : DataW.trod enc Try.prog W 0 (fun _ => true) true fuel t [c] = some y) :
    ∃ a cap l, c = .slice a l.length cap ∧ Kd.C Kd.string W a l.length l ∧ l.length ≤ cap := by
  rcases open_strings ht he hc h with ⟨hcs, _⟩ | ⟨x, n, c2, ss, hcs, _, hl, hm, hz, _, hcell, _⟩
  · refine ⟨none, 0, [], by simpa using hcs, Kd.C_nil _ _, Nat.le_refl _⟩
  · have hz2 : ss.length = c2 := by simpa using hz
    have hlen : (ss.take n).length = n := by rw [List.length_take]; omega
    have hR : ReadsOf Value.string ByteArray.empty W (some x) (ss.take n).length (ss.take n) := by
      refine ⟨rfl, by rw [hlen]; unfold maxLen at hm; omega, fun _ => ⟨x, rfl, fun j hj => ?_⟩⟩
      rw [hlen] at hj
      rw [hcell j (by omega), List.getD_eq_getElem?_getD, List.getD_eq_getElem?_getD, List.getElem?_take_of_lt hj]
    exact ⟨some x, c2, ss.take n, by rw [hlen]; simpa using hcs, Kd.C_of_reads (d := ByteArray.empty) (h1 := fun _ => rfl) hR, by rw [hlen]; exact hl⟩
set_option maxRecDepth 100000 in
theorem lifted (os : Os) (started : os.Started) (H : Type) (enc : TypeId × Value → H) :
    ReturnsInHanded {} Try.checked os 3 .any (Rows.modelAnySpec.pre6 enc Try.prog Try.f3 Rows.modelAnyRow.domain false) (Rows.modelAnySpec.post enc Try.prog Try.f3 false true false false) := by
  refine returnsInHanded_of_change (C := Try.checked) own started (by kernel_rfl) Try.func3
    (ChangeSpec.witness6 (enc := enc) (C := Try.checked) false ⟨#[], #[.slice none 0 0, .agg #[.int .i64 0, .int .i64 0, .int .i64 0, .slice none 0 0], .int .i64 0, .int .i64 0], []⟩ 8 (by kernel_rfl) (by kernel_rfl) (by kernel_rfl) (by kernel_rfl)) ?_
  intro W base args ds gs before hval0 hW _ _
  have hval : ∀ (j : Nat) t v, Try.f3.params[j]? = some t → args[j]? = some v → Value.okWide Try.prog W .any base t v := hval0
  have hW' := hW
  obtain ⟨p, q, hA0, hV, rfl, hfz, hnd⟩ := hW
  have hA : DataW.TrodAll enc Try.prog W 0 (fun _ => true) true Try.f3.params.toList args.toList ds p := hA0
  rw [Try.params3] at hA hval
  obtain ⟨v0, vs0, d0, ds0, p0, q0, hargs, rfl, rfl, h0, r0⟩ := trodAll_cons hA
  obtain ⟨v1, vs1, d1, ds1, p1, q1, rfl, rfl, rfl, h1, r1⟩ := trodAll_cons r0
  obtain ⟨v2, vs2, d2, ds2, p2, q2, rfl, rfl, rfl, h2, r2⟩ := trodAll_cons r1
  obtain ⟨v3, vs3, d3, ds3, p3, q3, rfl, rfl, rfl, h3, r3⟩ := trodAll_cons r2
  obtain ⟨rfl, rfl, rfl⟩ := trodAll_nil r3
  obtain rfl : args = #[v0, v1, v2, v3] := by cases args; simp_all
  obtain ⟨rfl, rfl⟩ := trodVars_none hV
  have k0 := h0
  have lt0 : ∀ x ∈ p0, x.block < W.heap.size := by obtain ⟨m, hm⟩ := k0; exact DataW.trod_lt m _ _ _ hm
  have k1 := h1
  have lt1 : ∀ x ∈ p1, x.block < W.heap.size := by obtain ⟨m, hm⟩ := k1; exact DataW.trod_lt m _ _ _ hm
  obtain ⟨A0, n0, c0, rfl⟩ := okWide_slice Try.underlying22 (hval 0 22 v0 rfl rfl)
  obtain ⟨fu, hf0⟩ := h0
  obtain ⟨A0', m0, l0, e0, hr0, hc0⟩ := row_open Try.underlying22 Try.underlying9 (by kernel_rfl) (by simpa [Value.cells] using hf0)
  obtain ⟨c1, c2, c3, c4, y1, y2, y3, y4, m, rfl, e1, e2, hy1, hy2, hy3, hy4⟩ := open_agg4 Try.underlying24 (by kernel_rfl) (by kernel_rfl) (hval 1 24 v1 rfl rfl) h1
  obtain ⟨b1, g1, rfl, w1⟩ := DataW.trod_int Try.underlying3 hy1
  obtain ⟨b2, g2, rfl, w2⟩ := DataW.trod_int Try.underlying3 hy2
  obtain ⟨b3, g3, rfl, w3⟩ := DataW.trod_int Try.underlying3 hy3
  obtain ⟨A4, n4, l4, rfl, hr4, hc4⟩ := row_open Try.underlying22 Try.underlying9 (by kernel_rfl) hy4
  simp at g1 g2 g3
  subst g1 g2 g3
  obtain ⟨a, rfl, rfl, rfl, wa⟩ := open_int Try.underlying3 (hval 2 3 v2 rfl rfl) h2
  obtain ⟨b, rfl, rfl, rfl, wb⟩ := open_int Try.underlying3 (hval 3 3 v3 rfl rfl) h3
  clear hA0 hval0 hy4 e1 e2 hf0
  injection e0 with e01 e02 e03
  subst e01 e02 e03
  obtain ⟨k, hk⟩ := X.law_ModelAny l0 b1 b2 b3 l4 a b
  refine (PAll.clinkerlaw13_ModelAny.calls k _ _ l0 b1 b2 b3 A4 n4 l4 a b true W hr0 hc0 hr4 hc4 hk).mono fun e W' ⟨he, bel⟩ => ?_
  subst he
  exact ⟨_, rfl, _, _, _, [], _, [], hW', trodAll_mk1 (shut_bool Try.underlying4 _), (trodAll_cons_mk (Below.trod laidOut (by kernel_rfl) (of_decide_eq_true (by kernel_rfl)) k0 bel lt0) (trodAll_cons_mk (Below.trod laidOut (by kernel_rfl) (of_decide_eq_true (by kernel_rfl)) k1 bel lt1) (trodAll_cons_mk (shut_int Try.underlying3 wa) (trodAll_cons_mk (shut_int Try.underlying3 wb) trodAll_mk0)))), rfl, bel.frame _, fun h => by cases h⟩
theorem over : Rows.modelAnyRow.holds Try.pinned (OpenSpec.ofChange Rows.modelAnySpec) :=
  OpenClaim.holds_of_wide 3 Try.f3 rfl rfl rfl rfl rfl rfl rfl ⟨rfl, rfl, rfl, rfl, rfl⟩ rfl rfl rfl rfl rfl (by kernel_rfl) Try.func3 (by kernel_rfl)
    (of_decide_eq_true (by kernel_rfl)) (by unfold Func.isWrapper; first | (rw [if_pos (by decide +kernel)]; kernel_rfl) | (rw [if_neg (by decide +kernel)]; exact ⟨rfl, rfl⟩))
    (fun os started H enc _ => lifted os started H enc)
theorem proved : Rows.ModelAnySaid := over
end Go.Proofs.Ytcahhknehmhlaaa.modelAny
namespace Go.Proofs.Ytcahhknehmhlaaa
/-- The row, under a short name, for the claim. -/
theorem modelAny_holds : Rows.ModelAnySaid := modelAny.proved
end Go.Proofs.Ytcahhknehmhlaaa
