/- The row TagAny: a record by value, opened, and a text; the call is the printed one. -/
import Derived.Test.YtejhgjmapnmigaaRows
import Derived.Test.YtejhgjmapnmigaaPAllx16
import Derived.Test.YtejhgjmapnmigaaTagAll
import Derived.WalkKit
import Derived.ProofKit
import Derived.OpenShut
import Derived.ShutString
import Derived.ChangeOld
import Derived.Below
import Derived.SizedLaws
import Derived.Lib.SmallJoins
namespace Go.Proofs.Ytejhgjmapnmigaa.X
open Go.RowKit Go.Proofs.Ytejhgjmapnmigaa.PAll Go.Proofs.YtejhgjmapnmigaaW.PrintWords Go.Proofs.YtejhgjmapnmigaaW.PrintLast Go.Proofs.YtejhgjmapnmigaaW.PrintMore
theorem law_TagAny (a b : Int) (l m : List Int) (d : ByteArray) (hd : d.size ≤ 140737488351232) : ∃ k, clinkerlaw03_TagAny.f k a b l m d = some true := by
  refine Ev.rounds (g := fun k => clinkerlaw03_TagAny.f k a b l m d) ?_
  unfold clinkerlaw03_TagAny.f
  rw [show clinkerlaw03_awake.f = some true from rfl]
  refine Ev.pure_ (Ev.ite_pos rfl ?_)
  by_cases h1 : (l.length : Int) > 100
  · have e : clinkerlaw03_big.f a b l m = some true := by unfold clinkerlaw03_big.f; rw [if_pos h1]
    rw [e]
    exact Ev.pure_ (Ev.ite_pos rfl (Ev.now true))
  · by_cases h2 : (m.length : Int) > 100
    · have e : clinkerlaw03_big.f a b l m = some true := by unfold clinkerlaw03_big.f; rw [if_neg h1, decide_eq_true h2]
      rw [e]
      exact Ev.pure_ (Ev.ite_pos rfl (Ev.now true))
    · have e : clinkerlaw03_big.f a b l m = some false := by unfold clinkerlaw03_big.f; rw [if_neg h1, decide_eq_false h2]
      rw [e]
      exact Ev.pure_ (Ev.ite_neg (by simp) (Ev.bind (same_rec a b l m d (by omega) (by omega) hd) (Ev.now true)))
end Go.Proofs.Ytejhgjmapnmigaa.X
namespace Go.Proofs.Ytejhgjmapnmigaa.tagAny
open Go.ChangeShapes Go.WideShapes Go.ChangeAt Go.RowKit Go.Joins
open Go.Proofs.YtejhgjmapnmigaaW.PrintWords Go.Proofs.YtejhgjmapnmigaaW.PrintLast Go.Proofs.YtejhgjmapnmigaaW.PrintMore
open Go.ChangeMaps (open_string shut_string)
theorem own : ownKnob Try.prog.godebug = none := by kernel_rfl
theorem laidOut : laidOutB Try.prog = true := by kernel_rfl
/-- A row of numbers as the walk wants it. -/
theorem row_open {H : Type} {enc : TypeId × Value → H} {W : World} {fuel : Nat} {c : Value} {y : DataW H × List MemPlace} {t e : TypeId}
    (ht : Try.prog.underlying t = some (.slice e)) (he : Try.prog.underlying e = some (.int .i64)) (hc : Try.prog.cellsOf e = 1)
    (h : DataW.trod enc Try.prog W 0 (fun _ => true) true fuel t [c] = some y) :
    ∃ a cap l, c = .slice a l.length cap ∧ Kd.C (Kd.int .i64) W a l.length l ∧ l.length ≤ cap := by
  have key : ∃ a len cap zs, c = .slice a len cap ∧ ((a = none ∧ len = 0 ∧ cap = 0 ∧ zs = []) ∨ ∃ x, a = some x ∧ len ≤ cap ∧ cap ≤ maxLen ∧ zs.length = cap ∧ (∀ i, i < zs.length → W.cell? (x.add i) = some (.int .i64 (zs.getD i 0))) ∧ ∀ n ∈ zs, (Lit.int .i64 n).wf = true) := by
    rcases open_ints ht he hc h with ⟨hcs, _⟩ | ⟨x, l, c2, zs, hcs, _, hl, hm, hz, _, hcell, hwz⟩
    · exact ⟨none, 0, 0, [], by simpa using hcs, .inl ⟨rfl, rfl, rfl, rfl⟩⟩
    · exact ⟨some x, l, c2, zs, by simpa using hcs, .inr ⟨x, rfl, hl, hm, by simpa using hz, hcell, hwz⟩⟩
  obtain ⟨a, len, cap, zs, rfl, w0⟩ := key
  obtain ⟨l0, rfl, hr0, _, _, hc0⟩ := ReadsInt.ofRowC w0
  exact ⟨a, cap, l0, rfl, Kd.C_of_reads (d := (0 : Int)) (h1 := fun _ => rfl) hr0, hc0⟩
set_option maxRecDepth 100000 in
theorem lifted (os : Os) (started : os.Started) (H : Type) (enc : TypeId × Value → H) :
    ReturnsInHanded {} Try.checked os 3 .any (Rows.tagAnySpec.pre6 enc Try.prog Try.f3 Rows.tagAnyRow.domain false) (Rows.tagAnySpec.post enc Try.prog Try.f3 false true false false) := by
  refine returnsInHanded_of_change_sized (C := Try.checked) own started (by kernel_rfl) Try.func3
    (ChangeSpec.witness6 (enc := enc) (C := Try.checked) false ⟨#[], #[.agg #[.int .i64 0, .int .i64 0, .slice none 0 0, .slice none 0 0], .string ByteArray.empty], []⟩ 8 (by kernel_rfl) (by kernel_rfl) (by kernel_rfl) (by kernel_rfl)) ?_
  intro W base args ds gs before hval0 hW hcnd hsz0 _
  have hsz : (DataW.weightsEach Try.prog (Try.f3.params.toList ++ Rows.tagAnySpec.plain.varTypes Try.prog) (ds ++ gs)).all (· ≤ reachBytes) = true := hsz0
  have hval : ∀ (j : Nat) t v, Try.f3.params[j]? = some t → args[j]? = some v → Value.okWide Try.prog W .any base t v := hval0
  have hW' := hW
  obtain ⟨p, q, hA0, hV, rfl, hfz, hnd⟩ := hW
  have hA : DataW.TrodAll enc Try.prog W 0 (fun _ => true) true Try.f3.params.toList args.toList ds p := hA0
  rw [Try.params3] at hA hval hsz
  obtain ⟨v0, vs0, d0, ds0, p0, q0, hargs, rfl, rfl, h0, r0⟩ := trodAll_cons hA
  obtain ⟨v1, vs1, d1, ds1, p1, q1, rfl, rfl, rfl, h1, r1⟩ := trodAll_cons r0
  obtain ⟨rfl, rfl, rfl⟩ := trodAll_nil r1
  obtain rfl : args = #[v0, v1] := by cases args; simp_all
  obtain ⟨rfl, rfl⟩ := trodVars_none hV
  have k0 := h0
  have lt0 : ∀ x ∈ p0, x.block < W.heap.size := by obtain ⟨m, hm⟩ := k0; exact DataW.trod_lt m _ _ _ hm
  obtain ⟨c1, c2, c3, c4, y1, y2, y3, y4, m, rfl, e1, e2, hy1, hy2, hy3, hy4⟩ := open_agg4 Try.underlying24 (by kernel_rfl) (by kernel_rfl) (hval 0 24 v0 rfl rfl) h0
  obtain ⟨b1, g1, rfl, w1⟩ := DataW.trod_int Try.underlying3 hy1
  obtain ⟨b2, g2, rfl, w2⟩ := DataW.trod_int Try.underlying3 hy2
  obtain ⟨A3, n3, l3, rfl, hr3, hc3⟩ := row_open Try.underlying22 Try.underlying3 (by kernel_rfl) hy3
  obtain ⟨A4, n4, l4, rfl, hr4, hc4⟩ := row_open Try.underlying22 Try.underlying3 (by kernel_rfl) hy4
  simp at g1 g2
  subst g1 g2
  obtain ⟨a1, rfl, rfl, rfl, z1⟩ := open_string Try.underlying9 (hval 1 9 v1 rfl rfl) h1
  have w3 : a1.size ≤ 140737488351232 := by
    have z := sized_string hsz (j := 1) (t := 9) rfl rfl
    rw [Array.length_toList] at z
    exact z
  clear hA0 hval0 hy3 hy4 e1 e2 hsz0 hsz
  obtain ⟨k, hk⟩ := X.law_TagAny b1 b2 l3 l4 a1 w3
  refine (PAll.clinkerlaw03_TagAny.calls k b1 b2 A3 n3 l3 A4 n4 l4 a1 true W hr3 hc3 hr4 hc4 hk).mono fun e W' ⟨he, bel⟩ => ?_
  subst he
  exact ⟨_, rfl, _, _, _, [], _, [], hW', trodAll_mk1 (shut_bool Try.underlying4 _), (trodAll_cons_mk (Below.trod laidOut (by kernel_rfl) (of_decide_eq_true (by kernel_rfl)) k0 bel lt0) (trodAll_cons_mk (shut_string Try.underlying9 z1) trodAll_mk0)), rfl, bel.frame _, fun h => by cases h⟩
theorem over : Rows.tagAnyRow.holds Try.pinned (OpenSpec.ofChange Rows.tagAnySpec) :=
  OpenClaim.holds_of_wide 3 Try.f3 rfl rfl rfl rfl rfl rfl rfl ⟨rfl, rfl, rfl, rfl, rfl⟩ rfl rfl rfl rfl rfl (by kernel_rfl) Try.func3 (by kernel_rfl)
    (of_decide_eq_true (by kernel_rfl)) (by unfold Func.isWrapper; first | (rw [if_pos (by decide +kernel)]; kernel_rfl) | (rw [if_neg (by decide +kernel)]; exact ⟨rfl, rfl⟩))
    (fun os started H enc _ => lifted os started H enc)
theorem proved : Rows.TagAnySaid := over
end Go.Proofs.Ytejhgjmapnmigaa.tagAny
namespace Go.Proofs.Ytejhgjmapnmigaa
/-- The row, under a short name, for the claim. -/
theorem tagAny_holds : Rows.TagAnySaid := tagAny.proved
end Go.Proofs.Ytejhgjmapnmigaa
