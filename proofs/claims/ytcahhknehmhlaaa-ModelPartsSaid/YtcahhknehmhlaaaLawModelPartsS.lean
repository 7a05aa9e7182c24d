/- The row ModelParts: a row of rows of numbers, opened; the call is the printed one. -/
import Derived.Test.YtcahhknehmhlaaaRows
import Derived.Test.YtcahhknehmhlaaaModelPartsLawMdP
import Derived.Test.YtcahhknehmhlaaaPaB
import Derived.WalkKit
import Derived.ProofKit
import Derived.OpenShut
import Derived.ShutString
import Derived.ChangeOld
import Derived.Below
import Derived.ChangeSlices
import Derived.Deep.Slices
import Derived.Lib.SmallJoins
namespace Go.Proofs.Ytcahhknehmhlaaa.modelParts
open Go.ChangeShapes Go.WideShapes Go.ChangeAt Go.RowKit Go.Joins
open Go.Proofs.YtcahhknehmhlaaaW.PrintWords Go.Proofs.YtcahhknehmhlaaaW.PrintLast Go.Proofs.YtcahhknehmhlaaaW.PrintMore
open Go.ChangeMaps (open_string shut_string)
theorem own : ownKnob Try.prog.godebug = none := by kernel_rfl
theorem laidOut : laidOutB Try.prog = true := by kernel_rfl
/-- A row of small numbers as the walk wants it. -/
theorem ints_open {H : Type} {enc : TypeId × Value → H} {W : World} {fuel : Nat} {c : Value} {y : DataW H × List MemPlace} {t e : TypeId}
    (ht : Try.prog.underlying t = some (.slice e)) (he : Try.prog.underlying e = some (.int .u8)) (hc : Try.prog.cellsOf e = 1)
    (h : DataW.trod enc Try.prog W 0 (fun _ => true) true fuel t [c] = some y) :
    ∃ a cap l, c = .slice a l.length cap ∧ Kd.C (Kd.int .u8) W a l.length l ∧ l.length ≤ cap ∧ ∀ x ∈ l, 0 ≤ x ∧ x ≤ 255 := by
  rcases open_ints ht he hc h with ⟨hcs, _⟩ | ⟨x, n, c2, ss, hcs, _, hl, hm, hz, _, hcell, hwf⟩
  · exact ⟨none, 0, [], by simpa using hcs, Kd.C_nil _ _, Nat.le_refl _, by simp⟩
  · have hz2 : ss.length = c2 := by simpa using hz
    have hlen : (ss.take n).length = n := by rw [List.length_take]; omega
    have hR : ReadsOf (Value.int .u8) (0 : Int) W (some x) (ss.take n).length (ss.take n) := by
      refine ⟨rfl, by rw [hlen]; unfold maxLen at hm; omega, fun _ => ⟨x, rfl, fun j hj => ?_⟩⟩
      rw [hlen] at hj
      rw [hcell j (by omega), List.getD_eq_getElem?_getD, List.getD_eq_getElem?_getD, List.getElem?_take_of_lt hj]
    refine ⟨some x, c2, ss.take n, by rw [hlen]; simpa using hcs, Kd.C_of_reads (d := (0 : Int)) (h1 := fun _ => rfl) hR, by rw [hlen]; exact hl, fun z hz => ?_⟩
    have h3 := hwf z (List.mem_of_mem_take hz)
    have hmin : IntKind.u8.min = 0 := rfl
    have hmax : IntKind.u8.max = 255 := rfl
    simp only [Lit.wf, Bool.and_eq_true, decide_eq_true_eq] at h3
    omega
/-- A row of such rows. -/
theorem grid_open {H : Type} {enc : TypeId × Value → H} {W : World} {fuel : Nat} {c : Value} {y : DataW H × List MemPlace} {t e b : TypeId}
    (ht : Try.prog.underlying t = some (.slice e)) (hc : Try.prog.cellsOf e = 1) (he : Try.prog.underlying e = some (.slice b)) (hb : Try.prog.underlying b = some (.int .u8)) (hcb : Try.prog.cellsOf b = 1)
    (h : DataW.trod enc Try.prog W 0 (fun _ => true) true fuel t [c] = some y) :
    ∃ a cap l, c = .slice a l.length cap ∧ Kd.C (Kd.slice b (Kd.int .u8)) W a l.length l ∧ l.length ≤ cap ∧ (∀ x ∈ l, ∀ z ∈ x, 0 ≤ z ∧ z ≤ 255) ∧ l.length ≤ 9223372036854775807 := by
  rcases Go.Deep.open_slice1 ht hc h with ⟨hcs, _⟩ | ⟨x, n, c2, m, fu, V, D, Pl, hcs, _, hl, hm, hmm, _, hall⟩
  · exact ⟨none, 0, [], by simpa using hcs, Kd.C_nil _ _, Nat.le_refl _, by simp, by simp⟩
  · have hmm2 : m = c2 := by simpa using hmm
    have each : ∀ i, i < n → ∃ li : List Int, ∃ a cap, W.cell? (x.add i) = some (.slice a li.length cap) ∧ Kd.C (Kd.int .u8) W a li.length li ∧ li.length ≤ cap ∧ ∀ z ∈ li, 0 ≤ z ∧ z ≤ 255 := fun i hi => by
      obtain ⟨h1, h2⟩ := hall i (by omega)
      obtain ⟨a, cap, li, e1, e2, e3, e4⟩ := ints_open he hb hcb h2
      exact ⟨li, a, cap, by rw [h1, e1], e2, e3, e4⟩
    obtain ⟨F, hF⟩ : ∃ F : Nat → List Int, ∀ i, i < n → ∃ a cap, W.cell? (x.add i) = some (.slice a (F i).length cap) ∧ Kd.C (Kd.int .u8) W a (F i).length (F i) ∧ (F i).length ≤ cap ∧ ∀ z ∈ F i, 0 ≤ z ∧ z ≤ 255 :=
      ⟨fun i => if hi : i < n then (each i hi).choose else [], fun i hi => by simp only [dif_pos hi]; exact (each i hi).choose_spec⟩
    have hlen : ((List.range n).map F).length = n := by simp
    refine ⟨some x, c2, (List.range n).map F, by rw [hlen]; simpa using hcs, ⟨rfl, by rw [hlen]; unfold maxLen at hm; omega, fun _ => ⟨x, rfl, fun j p hj => ?_⟩⟩, by rw [hlen]; exact hl, fun r hr => ?_, by rw [hlen]; unfold maxLen at hm; omega⟩
    · obtain ⟨hjl, hp⟩ := List.getElem?_eq_some_iff.1 hj
      have hjn : j < n := by rw [hlen] at hjl; exact hjl
      have hp2 : F j = p := by simpa using hp
      subst hp2
      obtain ⟨a, cap, q1, q2, q3, q4⟩ := hF j hjn
      refine ⟨[.slice a (F j).length cap], rfl, ⟨a, cap, rfl, q3, q2⟩, fun i u hu => ?_⟩
      cases i with
      | zero =>
        have : Value.slice a (F j).length cap = u := by simpa using hu
        subst this
        show W.cell? (x.add (j * 1 + 0)) = _
        rw [Nat.mul_one, Nat.add_zero]
        exact q1
      | succ i => simp at hu
    · obtain ⟨i, hi, rfl⟩ := List.mem_map.1 hr
      obtain ⟨a, cap, q1, q2, q3, q4⟩ := hF i (List.mem_range.1 hi)
      exact q4
set_option maxRecDepth 100000 in
theorem lifted (os : Os) (started : os.Started) (H : Type) (enc : TypeId × Value → H) :
    ReturnsInHanded {} Try.checked os 7 .any (Rows.modelPartsSpec.pre6 enc Try.prog Try.f7 Rows.modelPartsRow.domain false) (Rows.modelPartsSpec.post enc Try.prog Try.f7 false true false false) := by
  refine returnsInHanded_of_change (C := Try.checked) own started (by kernel_rfl) Try.func7
    (ChangeSpec.witness6 (enc := enc) (C := Try.checked) false ⟨#[], #[.slice none 0 0, .int .u8 0], []⟩ 8 (by kernel_rfl) (by kernel_rfl) (by kernel_rfl) (by kernel_rfl)) ?_
  intro W base args ds gs before hval0 hW _ _
  have hval : ∀ (j : Nat) t v, Try.f7.params[j]? = some t → args[j]? = some v → Value.okWide Try.prog W .any base t v := hval0
  have hW' := hW
  obtain ⟨p, q, hA0, hV, rfl, hfz, hnd⟩ := hW
  have hA : DataW.TrodAll enc Try.prog W 0 (fun _ => true) true Try.f7.params.toList args.toList ds p := hA0
  rw [Try.params7] at hA hval
  obtain ⟨v0, vs0, d0, ds0, p0, q0, hargs, rfl, rfl, h0, r0⟩ := trodAll_cons hA
  obtain ⟨v1, vs1, d1, ds1, p1, q1, rfl, rfl, rfl, h1, r1⟩ := trodAll_cons r0
  obtain ⟨rfl, rfl, rfl⟩ := trodAll_nil r1
  obtain rfl : args = #[v0, v1] := by cases args; simp_all
  obtain ⟨rfl, rfl⟩ := trodVars_none hV
  have k0 := h0
  have lt0 : ∀ x ∈ p0, x.block < W.heap.size := by obtain ⟨m, hm⟩ := k0; exact DataW.trod_lt m _ _ _ hm
  obtain ⟨A0, n0, c0, rfl⟩ := okWide_slice Try.underlying32 (hval 0 32 v0 rfl rfl)
  obtain ⟨fu, hf0⟩ := h0
  obtain ⟨A0', m0, l0, e0, hr0, hc0, hw0, hl0⟩ := grid_open Try.underlying32 (by kernel_rfl) Try.underlying34 Try.underlying5 (by kernel_rfl) (by simpa [Value.cells] using hf0)
  obtain ⟨a, rfl, rfl, rfl, wa⟩ := open_int Try.underlying5 (hval 1 5 v1 rfl rfl) h1
  clear hA0 hval0 hf0
  injection e0 with e01 e02 e03
  subst e01 e02 e03
  obtain ⟨k, hk⟩ := X.law_ModelParts l0 hw0 hl0 a wa
  refine (PAll.clinkerlaw13_ModelParts.calls k _ _ l0 a true ⟨rfl⟩ W hr0 hc0 hk).mono fun e W' ⟨he, bel⟩ => ?_
  subst he
  exact ⟨_, rfl, _, _, _, [], _, [], hW', trodAll_mk1 (shut_bool Try.underlying4 _), (trodAll_cons_mk (Below.trod laidOut (by kernel_rfl) (of_decide_eq_true (by kernel_rfl)) k0 bel lt0) (trodAll_cons_mk (shut_int Try.underlying5 wa) trodAll_mk0)), rfl, bel.frame _, fun h => by cases h⟩
theorem over : Rows.modelPartsRow.holds Try.pinned (OpenSpec.ofChange Rows.modelPartsSpec) :=
  OpenClaim.holds_of_wide 7 Try.f7 rfl rfl rfl rfl rfl rfl rfl ⟨rfl, rfl, rfl, rfl, rfl⟩ rfl rfl rfl rfl rfl (by kernel_rfl) Try.func7 (by kernel_rfl)
    (of_decide_eq_true (by kernel_rfl)) (by unfold Func.isWrapper; first | (rw [if_pos (by decide +kernel)]; kernel_rfl) | (rw [if_neg (by decide +kernel)]; exact ⟨rfl, rfl⟩))
    (fun os started H enc _ => lifted os started H enc)
theorem proved : Rows.ModelPartsSaid := over
end Go.Proofs.Ytcahhknehmhlaaa.modelParts
namespace Go.Proofs.Ytcahhknehmhlaaa
/-- The row, under a short name, for the claim. -/
theorem modelParts_holds : Rows.ModelPartsSaid := modelParts.proved
end Go.Proofs.Ytcahhknehmhlaaa
