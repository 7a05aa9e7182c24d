/- The statement ModelRead over numbers and lists alone. -/
import Derived.Test.YtcahhknehmhlaaaModelLaws
import Derived.Test.YtcahhknehmhlaaaPAllx15
namespace Go.Proofs.Ytcahhknehmhlaaa.X
open Go.RowKit Go.Proofs.Ytcahhknehmhlaaa.PAll Go.Proofs.YtcahhknehmhlaaaW.PrintWords Go.Proofs.YtcahhknehmhlaaaW.PrintLast Go.Proofs.YtcahhknehmhlaaaW.PrintMore

theorem few_some (x : Int) (h : 0 ≤ x ∧ x ≤ 255) : ∃ s, clinkerlaw13_Few.f (wrap64 x) = some s := by
  unfold clinkerlaw13_Few.f
  rw [wrap64_in (by omega) (by omega), Int.tmod_eq_emod_of_nonneg h.1, Option.bind_some, if_pos (by omega), if_pos (by simp only [List.length_cons, List.length_nil]; omega)]
  exact ⟨_, rfl⟩
theorem wf_u8 {a : Int} (h : (Lit.int .u8 a).wf = true) : 0 ≤ a ∧ a ≤ 255 := by
  simp [Lit.wf, IntKind.min, IntKind.max, IntKind.bits, IntKind.signed] at h
  omega
theorem read_j1 (a1 a2 : Int) (m : List ByteArray) (hm : m.length ≤ 8796093022207) : Ev (fun k => clinkerlaw13_ModelRead.j1 k a1 a2 m) true :=
  Ev.step (fun _ => clinkerlaw13_ModelRead.j1.eq_2 ..) (Ev.bind awake_ev (Ev.ite_pos rfl (Ev.bind (same_ev m 1 a1 a2 [] 0 hm) (Ev.ite_pos rfl (Ev.bind (same_ev m 3 a1 a2 [] a2 hm) (Ev.ite_pos rfl (Ev.bind (same_ev m 1 0 (m.length : Int) [] 0 hm) (Ev.now true))))))))
theorem read_l0 (l : List Int) (hw : ∀ x ∈ l, 0 ≤ x ∧ x ≤ 255) (a1 a2 : Int) : ∀ (d i : Nat) (m : List ByteArray), m.length = i → i + d = min l.length 64 → Ev (fun k => clinkerlaw13_ModelRead.l0 k l a1 a2 m (i : Int)) true
  | 0, i, m, hm, hi => by
    refine Ev.step (fun k => clinkerlaw13_ModelRead.l0.eq_2 ..) ?_
    by_cases h : i < l.length
    · exact Ev.ite_pos (by omega) (Ev.ite_neg (by omega) (read_j1 a1 a2 m (by omega)))
    · exact Ev.ite_neg (by omega) (read_j1 a1 a2 m (by omega))
  | d + 1, i, m, hm, hi => by
    have hx : 0 ≤ rd l (i : Int) ∧ rd l (i : Int) ≤ 255 := by
      unfold rd
      rw [Int.toNat_natCast, List.getD_eq_getElem?_getD, List.getElem?_eq_getElem (show i < l.length by omega)]
      exact hw _ (List.getElem_mem _)
    obtain ⟨s, hs⟩ := few_some _ hx
    have ih := read_l0 l hw a1 a2 d (i + 1) (m ++ [s]) (by rw [List.length_append]; simp; omega) (by omega)
    refine Ev.step (fun k => clinkerlaw13_ModelRead.l0.eq_2 ..) (Ev.ite_pos (by omega) (Ev.ite_pos (by omega) (Ev.ite_pos (by omega) ?_)))
    rw [hs, wrap_succ (by omega)]
    exact Ev.pure_ (Ev.ite_pos (by omega) ih)
theorem law_ModelRead : clinkerlaw13_ModelRead.Pure := by
  intro l a1 a2 _ _ hw _ _
  refine Ev.rounds (g := fun k => clinkerlaw13_ModelRead.f k l a1 a2) ?_
  exact read_l0 l (fun x hx => wf_u8 (hw x hx)) a1 a2 (min l.length 64) 0 [] rfl (by omega)
end Go.Proofs.Ytcahhknehmhlaaa.X
