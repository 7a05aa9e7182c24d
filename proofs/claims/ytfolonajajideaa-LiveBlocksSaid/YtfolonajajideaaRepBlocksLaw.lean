/- The statement LiveBlocks over numbers and lists alone. -/
import Derived.Test.YtfolonajajideaaRepLaw
import Derived.Test.YtfolonajajideaaPAllx21
namespace Go.Proofs.Ytfolonajajideaa.X
open Go.RowKit Go.Proofs.Ytfolonajajideaa.PAll Go.Proofs.YtfolonajajideaaW.PrintWords Go.Proofs.YtfolonajajideaaW.PrintLast Go.Proofs.YtfolonajajideaaW.PrintMore
set_option linter.unusedVariables false
set_option linter.unusedSimpArgs false
theorem wf_u16 {a : Int} (h : (Lit.int .u16 a).wf = true) : 0 ≤ a ∧ a ≤ 65535 := by
  simp [Lit.wf, IntKind.min, IntKind.max, IntKind.bits, IntKind.signed] at h
  omega
theorem blocks_l1 (t u : List Int) (h0 : t.length ≤ big) (h1 : u.length ≤ big) : ∀ (d : Nat) (p : Int), p + 3 * d = 521 → -1 ≤ p → Ev (fun k => clinkerlaw08_LiveBlocks.l1 k p t u) true
  | 0, p, hp, hp1 => Ev.step (fun k => clinkerlaw08_LiveBlocks.l1.eq_2 ..) (Ev.ite_neg (by omega) (Ev.bind awake_ev (Ev.now true)))
  | d + 1, p, hp, hp1 => by
    have ih := blocks_l1 t u h0 h1 d (p + 3) (by omega) (by omega)
    refine Ev.step (fun k => clinkerlaw08_LiveBlocks.l1.eq_2 ..) (Ev.ite_pos (by omega) (Ev.bind (live_ev t u p h0 h1) (Ev.bind (rlive_ev t u p h0 h1) (Ev.ite_neg (by simp) ?_))))
    rw [wrap64_in (by omega) (by omega)]
    exact ih
theorem blocks_l0 (t u : List Int) (h0 : t.length ≤ big) (h1 : u.length ≤ big) : ∀ (d : Nat) (b : Int), b + d = 34 → -1 ≤ b → Ev (fun k => clinkerlaw08_LiveBlocks.l0 k b t u) true
  | 0, b, hb, hb1 => Ev.step (fun k => clinkerlaw08_LiveBlocks.l0.eq_2 ..) (Ev.ite_neg (by omega) (blocks_l1 t u h0 h1 174 (-1) (by omega) (by omega)))
  | d + 1, b, hb, hb1 => by
    have ih := blocks_l0 t u h0 h1 d (b + 1) (by omega) (by omega)
    refine Ev.step (fun k => clinkerlaw08_LiveBlocks.l0.eq_2 ..) (Ev.ite_pos (by omega) (Ev.have_ (count_eq t u b h0 h1) (Ev.bind (rcount_ev t u b h0 h1) (Ev.ite_pos rfl ?_))))
    rw [wrap64_in (by omega) (by omega)]
    exact ih
theorem sectors_nat {a : Int} (h : 0 ≤ a ∧ a ≤ 255) : ∃ n : Nat, n ≤ 64 ∧ Int.tmod (wrap64 a) 65 = (n : Int) := by
  refine ⟨(Int.tmod (wrap64 a) 65).toNat, ?_, ?_⟩ <;>
  · rw [wrap64_in (i := a) (by omega) (by omega), Int.tmod_eq_emod_of_nonneg h.1]
    omega
theorem law_LiveBlocks : clinkerlaw08_LiveBlocks.Pure := by
  intro l a hl hl2 hw ha
  refine Ev.rounds (g := fun k => clinkerlaw08_LiveBlocks.f k l a) ?_
  obtain ⟨n, hn, en⟩ := sectors_nat (wf_u8 ha)
  obtain ⟨l3, br3, ops3, g3, ev3⟩ := made_ev l (fun x hx => wf_u16 (hw x hx)) (by omega) 5 6 (by omega) (by omega) (by omega) (by omega)
  obtain ⟨L, M, Y, q, hL, ev4, ev5, e1, e2, e3⟩ := replay_ev (br := br3) (off := false) (ops := ops3) g3 (by omega) (by omega) n hn
  refine Ev.bind ev3 ?_
  rw [en]
  refine Ev.bind ev5 ?_
  exact blocks_l0 M Y (by unfold big; omega) (by unfold big; omega) 35 (-1) (by omega) (by omega)
end Go.Proofs.Ytfolonajajideaa.X
