/- The row LookMake: a write (a text, and a record in it) opened; the call is the printed one. -/
import Derived.Test.YtpbmcienlbdcbaaRows
import Derived.Test.YtpbmcienlbdcbaaLookMakeLawLkM
import Derived.Test.YtpbmcienlbdcbaaMkB
import Derived.WalkKit
import Derived.ProofKit
import Derived.OpenShut
import Derived.ShutString
import Derived.ChangeOld
import Derived.Below
import Derived.ChangeSlices
import Derived.ChangeSame
import Derived.Lib.SmallJoins
namespace Go.Proofs.Ytpbmcienlbdcbaa.lookMake
open Go.ChangeShapes Go.WideShapes Go.ChangeAt Go.RowKit Go.Joins
open Go.Proofs.YtpbmcienlbdcbaaW.PrintWords Go.Proofs.YtpbmcienlbdcbaaW.PrintLast Go.Proofs.YtpbmcienlbdcbaaW.PrintMore
open Go.ChangeMaps (open_string shut_string)
theorem own : ownKnob Try.prog.godebug = none := by kernel_rfl
theorem laidOut : laidOutB Try.prog = true := by kernel_rfl
theorem row_open {H : Type} {enc : TypeId × Value → H} {W : World} {fuel : Nat} {c : Value} {y : DataW H × List MemPlace} {t e : TypeId}
    (ht : Try.prog.underlying t = some (.slice e)) (he : Try.prog.underlying e = some (.int .i64)) (hc : Try.prog.cellsOf e = 1)
    (h : DataW.trod enc Try.prog W 0 (fun _ => true) true fuel t [c] = some y) :
    ∃ a cap l, c = .slice a l.length cap ∧ Kd.C (Kd.int .i64) W a l.length l ∧ l.length ≤ cap := by
  have key : ∃ a len cap zs, c = .slice a len cap ∧ ((a = none ∧ len = 0 ∧ cap = 0 ∧ zs = []) ∨ ∃ x, a = some x ∧ len ≤ cap ∧ cap ≤ maxLen ∧ zs.length = cap ∧ (∀ i, i < zs.length → W.cell? (x.add i) = some (.int .i64 (zs.getD i 0))) ∧ ∀ n ∈ zs, (Lit.int .i64 n).wf = true) := by
    rcases open_ints ht he hc h with ⟨hcs, _⟩ | ⟨x, l, c2, zs, hcs, _, hl, hm, hz, _, hcell, hwz⟩
    · exact ⟨none, 0, 0, [], by simpa using hcs, .inl ⟨rfl, rfl, rfl, rfl⟩⟩
    · exact ⟨some x, l, c2, zs, by simpa using hcs, .inr ⟨x, rfl, hl, hm, by simpa using hz, hcell, hwz⟩⟩
  obtain ⟨a, len, cap, zs, rfl, w0⟩ := key
  obtain ⟨l0, rfl, hr0, _, _, hc0⟩ := ReadsInt.ofRowC w0
  exact ⟨a, cap, l0, rfl, Kd.C_of_reads (d := (0 : Int)) (h1 := fun _ => rfl) hr0, hc0⟩
theorem small_open {H : Type} {enc : TypeId × Value → H} {W : World} {fuel : Nat} {c : Value} {y : DataW H × List MemPlace} {t e : TypeId}
    (ht : Try.prog.underlying t = some (.slice e)) (he : Try.prog.underlying e = some (.int .u16)) (hc : Try.prog.cellsOf e = 1)
    (h : DataW.trod enc Try.prog W 0 (fun _ => true) true fuel t [c] = some y) :
    ∃ a cap l, c = .slice a l.length cap ∧ Kd.C (Kd.int .u16) W a l.length l ∧ l.length ≤ cap ∧ ∀ x ∈ l, 0 ≤ x ∧ x ≤ 65535 := by
  rcases open_ints ht he hc h with ⟨hcs, _⟩ | ⟨x, n, c2, ss, hcs, _, hl, hm, hz, _, hcell, hwf⟩
  · exact ⟨none, 0, [], by simpa using hcs, Kd.C_nil _ _, Nat.le_refl _, by simp⟩
  · have hz2 : ss.length = c2 := by simpa using hz
    have hlen : (ss.take n).length = n := by rw [List.length_take]; omega
    have hR : ReadsOf (Value.int .u16) (0 : Int) W (some x) (ss.take n).length (ss.take n) := by
      refine ⟨rfl, by rw [hlen]; unfold maxLen at hm; omega, fun _ => ⟨x, rfl, fun j hj => ?_⟩⟩
      rw [hlen] at hj
      rw [hcell j (by omega), List.getD_eq_getElem?_getD, List.getD_eq_getElem?_getD, List.getElem?_take_of_lt hj]
    refine ⟨some x, c2, ss.take n, by rw [hlen]; simpa using hcs, Kd.C_of_reads (d := (0 : Int)) (h1 := fun _ => rfl) hR, by rw [hlen]; exact hl, fun z hz => ?_⟩
    have h3 := hwf z (List.mem_of_mem_take hz)
    have hmin : IntKind.u16.min = 0 := rfl
    have hmax : IntKind.u16.max = 65535 := rfl
    simp only [Lit.wf, Bool.and_eq_true, decide_eq_true_eq] at h3
    omega
theorem array5 {α : Type} {a : Array α} (h : a.size = 5) : ∃ c0 c1 c2 c3 c4, a = #[c0, c1, c2, c3, c4] := by
  obtain ⟨l⟩ := a
  match l, h with
  | [c0, c1, c2, c3, c4], _ => exact ⟨c0, c1, c2, c3, c4, rfl⟩
set_option maxRecDepth 100000 in
theorem lifted (os : Os) (started : os.Started) (H : Type) (enc : TypeId × Value → H) :
    ReturnsInHanded {} Try.checked os 4 .any (Rows.lookMakeSpec.pre6 enc Try.prog Try.f4 Rows.lookMakeRow.domain false) (Rows.lookMakeSpec.post enc Try.prog Try.f4 false true false false) := by
  refine returnsInHanded_of_change (C := Try.checked) own started (by kernel_rfl) Try.func4
    (ChangeSpec.witness6 (enc := enc) (C := Try.checked) false ⟨#[], #[.agg #[.string ByteArray.empty, .int .i64 0, .int .i64 0, .slice none 0 0, .slice none 0 0], .slice none 0 0], []⟩ 8 (by kernel_rfl) (by kernel_rfl) (by kernel_rfl) (by kernel_rfl)) ?_
  intro W base args ds gs before hval0 hW _ _
  have hval : ∀ (j : Nat) t v, Try.f4.params[j]? = some t → args[j]? = some v → Value.okWide Try.prog W .any base t v := hval0
  have hW' := hW
  obtain ⟨p, q, hA0, hV, rfl, hfz, hnd⟩ := hW
  have hA : DataW.TrodAll enc Try.prog W 0 (fun _ => true) true Try.f4.params.toList args.toList ds p := hA0
  rw [Try.params4] at hA hval
  obtain ⟨v0, vs0, d0, ds0, p0, q0, hargs, rfl, rfl, h0, r0⟩ := trodAll_cons hA
  obtain ⟨v1, vs1, d1, ds1, p1, q1, rfl, rfl, rfl, h1, r1⟩ := trodAll_cons r0
  obtain ⟨rfl, rfl, rfl⟩ := trodAll_nil r1
  obtain rfl : args = #[v0, v1] := by cases args; simp_all
  obtain ⟨rfl, rfl⟩ := trodVars_none hV
  have k0 := h0
  have lt0 : ∀ x ∈ p0, x.block < W.heap.size := by obtain ⟨m, hm⟩ := k0; exact DataW.trod_lt m _ _ _ hm
  have k1 := h1
  have lt1 : ∀ x ∈ p1, x.block < W.heap.size := by obtain ⟨m, hm⟩ := k1; exact DataW.trod_lt m _ _ _ hm
  obtain ⟨cs, rfl, hsz⟩ := okWide_struct Try.underlying33 (hval 0 33 v0 rfl rfl)
  obtain ⟨c0, c1, c2, c3, c4, rfl⟩ := array5 (hsz.trans (by kernel_rfl))
  have hc9 : Try.prog.cellsOf 9 = 1 := by kernel_rfl
  have hc27 : Try.prog.cellsOf 27 = 4 := by kernel_rfl
  have hc3 : Try.prog.cellsOf 3 = 1 := by kernel_rfl
  have hc25 : Try.prog.cellsOf 25 = 1 := by kernel_rfl
  obtain ⟨fu, hf0⟩ := h0
  obtain ⟨y0, y1, n, hx, _, hy0, hy1⟩ := trod_struct2 Try.underlying33 hf0
  simp only [Value.cells, hc9, hc27, List.drop_zero, List.take_succ_cons, List.take_zero, List.drop_succ_cons] at hy0 hy1
  obtain ⟨b0, g0, rfl, w0⟩ := DataW.trod_string Try.underlying9 hy0
  obtain ⟨u1, u2, u3, u4, n2, hx2, _, hz1, hz2, hz3, hz4⟩ := trod_struct4 Try.underlying27 hy1
  simp only [hc3, hc25, List.drop_zero, List.take_succ_cons, List.take_zero, List.drop_succ_cons] at hz1 hz2 hz3 hz4
  obtain ⟨b1, g1, rfl, w1⟩ := DataW.trod_int Try.underlying3 hz1
  obtain ⟨b2, g2, rfl, w2⟩ := DataW.trod_int Try.underlying3 hz2
  obtain ⟨A3, n3, l3, rfl, hr3, hc3'⟩ := row_open Try.underlying25 Try.underlying3 (by kernel_rfl) hz3
  obtain ⟨A4, n4, l4, rfl, hr4, hc4'⟩ := row_open Try.underlying25 Try.underlying3 (by kernel_rfl) hz4
  simp at g0 g1 g2
  subst g0 g1 g2
  obtain ⟨A5, m5, c5, rfl⟩ := okWide_slice Try.underlying34 (hval 1 34 v1 rfl rfl)
  obtain ⟨fu1, hf1⟩ := h1
  obtain ⟨A5', m5', l5, e5, hr5, hc5, hw5⟩ := small_open Try.underlying34 Try.underlying48 (by kernel_rfl) (by simpa [Value.cells] using hf1)
  clear hA0 hval0 hf0 hf1 hx hx2 hy1 hz3 hz4
  injection e5 with e51 e52 e53
  subst e51 e52 e53
  obtain ⟨k, hk⟩ := X.law_LookMake b0 b1 b2 l3 l4 l5 hw5
  refine (PAll.clinkerlaw04_LookMake.calls k b0 b1 b2 A3 n3 l3 A4 n4 l4 _ _ l5 true ⟨rfl⟩ W hr3 hc3' hr4 hc4' hr5 hc5 hk).mono fun e W' ⟨he, bel⟩ => ?_
  subst he
  exact ⟨_, rfl, _, _, _, [], _, [], hW', trodAll_mk1 (shut_bool Try.underlying4 _), (trodAll_cons_mk (Below.trod laidOut (by kernel_rfl) (of_decide_eq_true (by kernel_rfl)) k0 bel lt0) (trodAll_cons_mk (Below.trod laidOut (by kernel_rfl) (of_decide_eq_true (by kernel_rfl)) k1 bel lt1) trodAll_mk0)), rfl, bel.frame _, fun h => by cases h⟩
theorem over : Rows.lookMakeRow.holds Try.pinned (OpenSpec.ofChange Rows.lookMakeSpec) :=
  OpenClaim.holds_of_wide 4 Try.f4 rfl rfl rfl rfl rfl rfl rfl ⟨rfl, rfl, rfl, rfl, rfl⟩ rfl rfl rfl rfl rfl (by kernel_rfl) Try.func4 (by kernel_rfl)
    (of_decide_eq_true (by kernel_rfl)) (by unfold Func.isWrapper; first | (rw [if_pos (by decide +kernel)]; kernel_rfl) | (rw [if_neg (by decide +kernel)]; exact ⟨rfl, rfl⟩))
    (fun os started H enc _ => lifted os started H enc)
theorem proved : Rows.LookMakeSaid := over
end Go.Proofs.Ytpbmcienlbdcbaa.lookMake
namespace Go.Proofs.Ytpbmcienlbdcbaa
/-- The row, under a short name, for the claim. -/
theorem lookMake_holds : Rows.LookMakeSaid := lookMake.proved
end Go.Proofs.Ytpbmcienlbdcbaa
