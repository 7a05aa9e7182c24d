/- The statement LiveBound over numbers and lists alone. -/
import Derived.Test.YtfolonajajideaaRepLaw
import Derived.Test.YtfolonajajideaaPAllx22
namespace Go.Proofs.Ytfolonajajideaa.X
open Go.RowKit Go.Proofs.Ytfolonajajideaa.PAll Go.Proofs.YtfolonajajideaaW.PrintWords Go.Proofs.YtfolonajajideaaW.PrintLast Go.Proofs.YtfolonajajideaaW.PrintMore
set_option linter.unusedVariables false
set_option linter.unusedSimpArgs false
theorem wf_u16 {a : Int} (h : (Lit.int .u16 a).wf = true) : 0 ≤ a ∧ a ≤ 65535 := by
  simp [Lit.wf, IntKind.min, IntKind.max, IntKind.bits, IntKind.signed] at h
  omega
theorem sectors_nat {a : Int} (h : 0 ≤ a ∧ a ≤ 255) : ∃ n : Nat, n ≤ 64 ∧ Int.tmod (wrap64 a) 65 = (n : Int) := by
  refine ⟨(Int.tmod (wrap64 a) 65).toNat, ?_, ?_⟩ <;>
  · rw [wrap64_in (i := a) (by omega) (by omega), Int.tmod_eq_emod_of_nonneg h.1]
    omega
/-- How many of the first places are wanted. -/
def wN (t u : List Int) : Nat → Nat
  | 0 => 0
  | p + 1 => wN t u p + if liveB t u (p : Int) = true then 1 else 0
theorem wN_le (t u : List Int) : ∀ p, wN t u p ≤ p
  | 0 => Nat.le_refl _
  | p + 1 => by
    have := wN_le t u p
    rw [wN]
    split <;> omega
theorem cntB_16 (t u : List Int) (b : Int) : cntB t u b = cntTo t u b 16 := rfl
theorem cntTo_wN (t u : List Int) (b : Nat) (hb : b < 32) : ∀ p, wN t u (16 * b + p) = wN t u (16 * b) + cntTo t u (b : Int) p
  | 0 => by simp [cntTo]
  | p + 1 => by
    rw [cntTo_succ t u (b : Int) p (by omega) (by omega), ← Nat.add_assoc, wN, cntTo_wN t u b hb p, Nat.add_assoc]
    congr 1
theorem wN_next (t u : List Int) (b : Nat) (hb : b < 32) : wN t u (16 * (b + 1)) = wN t u (16 * b) + cntB t u (b : Int) := by
  rw [cntB_16, ← cntTo_wN t u b hb 16, show 16 * (b + 1) = 16 * b + 16 by omega]
/-- How often a number below p is in a list. -/
def inN (l : List Int) : Nat → Nat
  | 0 => 0
  | p + 1 => inN l p + if l.contains (p : Int) = true then 1 else 0
theorem inN_nil : ∀ p, inN [] p = 0
  | 0 => rfl
  | p + 1 => by rw [inN, inN_nil p]; rfl
theorem inN_cons (x : Int) (l : List Int) : ∀ p : Nat, inN (x :: l) p ≤ inN l p + if 0 ≤ x ∧ x < (p : Int) then 1 else 0
  | 0 => by simp [inN]
  | p + 1 => by
    have ih := inN_cons x l p
    rw [inN, inN, List.contains_cons]
    by_cases h : (p : Int) = x
    · rw [if_neg (by omega)] at ih
      rw [if_pos (show 0 ≤ x ∧ x < ((p + 1 : Nat) : Int) by omega)]
      split <;> split <;> omega
    · have hb : ((p : Int) == x) = false := beq_eq_false_iff_ne.mpr h
      rw [hb, Bool.false_or]
      by_cases h1 : 0 ≤ x ∧ x < (p : Int)
      · rw [if_pos h1] at ih
        rw [if_pos (show 0 ≤ x ∧ x < ((p + 1 : Nat) : Int) by omega)]
        omega
      · rw [if_neg h1] at ih
        rw [if_neg (show ¬ (0 ≤ x ∧ x < ((p + 1 : Nat) : Int)) by omega)]
        omega
theorem inN_le (l : List Int) (p : Nat) : inN l p ≤ l.length := by
  induction l with
  | nil => rw [inN_nil]; exact Nat.zero_le _
  | cons x l ih =>
    have := inN_cons x l p
    rw [List.length_cons]
    split at this <;> omega
theorem wN_in (t u : List Int) : ∀ p : Nat, wN t u p ≤ inN t p + inN u p
  | 0 => Nat.zero_le _
  | p + 1 => by
    have ih := wN_in t u p
    rw [wN, inN, inN]
    unfold liveB
    rw [decide_eq_true (show 0 ≤ (p : Int) by omega), Bool.true_and]
    cases t.contains (p : Int) <;> cases u.contains (p : Int) <;> simp <;> omega
theorem wN_all (t u : List Int) (p : Nat) : wN t u p ≤ t.length + u.length := by
  have h1 := wN_in t u p
  have h2 := inN_le t p
  have h3 := inN_le u p
  omega
theorem bound_l1 (n : Nat) (hn : n ≤ 64) (t u : List Int) (h0 : t.length = n) (h1 : u.length = n) : ∀ (d p : Nat), p + d = 512 →
    Ev (fun k => clinkerlaw08_LiveBound.l1 k true (n : Int) ((wN t u 512 : Nat) : Int) ((wN t u p : Nat) : Int) (p : Int) t u) true
  | 0, p, hp => by
    obtain rfl : p = 512 := by omega
    have h := wN_all t u 512
    have hw : wrap64 (2 * (n : Int)) = 2 * (n : Int) := wrap64_in (by omega) (by omega)
    refine Ev.step (fun k => clinkerlaw08_LiveBound.l1.eq_2 ..) (Ev.ite_neg (by omega) (Ev.ite_pos rfl (Ev.ite_pos (by rw [hw]; omega) ?_)))
    rw [beq_self_eq_true]
    exact Ev.now true
  | d + 1, p, hp => by
    have ih := bound_l1 n hn t u h0 h1 d (p + 1) (by omega)
    have hle := wN_le t u p
    have hs : wN t u (p + 1) = wN t u p + if liveB t u (p : Int) = true then 1 else 0 := rfl
    rw [hs] at ih
    refine Ev.step (fun k => clinkerlaw08_LiveBound.l1.eq_2 ..) (Ev.ite_pos (by omega) (Ev.bind (live_ev t u (p : Int) (by unfold big; omega) (by unfold big; omega)) ?_))
    rw [wrap_succ (i := p) (by omega), wrap_succ (i := wN t u p) (by omega)]
    by_cases hl : liveB t u (p : Int) = true
    · rw [if_pos hl] at ih
      exact Ev.ite_pos hl ih
    · rw [if_neg hl] at ih
      exact Ev.ite_neg hl ih
theorem bound_l0 (n : Nat) (hn : n ≤ 64) (t u : List Int) (h0 : t.length = n) (h1 : u.length = n) : ∀ (d b : Nat), b + d = 32 →
    Ev (fun k => clinkerlaw08_LiveBound.l0 k true (n : Int) ((wN t u (16 * b) : Nat) : Int) (b : Int) t u) true
  | 0, b, hb => by
    obtain rfl : b = 32 := by omega
    exact Ev.step (fun k => clinkerlaw08_LiveBound.l0.eq_2 ..) (Ev.ite_neg (by omega) (bound_l1 n hn t u h0 h1 512 0 (by omega)))
  | d + 1, b, hb => by
    have ih := bound_l0 n hn t u h0 h1 d (b + 1) (by omega)
    rw [wN_next t u b (by omega)] at ih
    have hle := wN_le t u (16 * b)
    have hc := cntTo_le t u (b : Int) 16
    rw [← cntB_16] at hc
    refine Ev.step (fun k => clinkerlaw08_LiveBound.l0.eq_2 ..) (Ev.ite_pos (by omega) (Ev.have_ (count_eq t u (b : Int) (by unfold big; omega) (by unfold big; omega)) ?_))
    rw [wrap_succ (i := b) (by omega), wrap64_in (i := ((wN t u (16 * b) : Nat) : Int) + ((cntB t u (b : Int) : Nat) : Int)) (by omega) (by omega), ← Int.natCast_add]
    exact ih
theorem law_LiveBound : clinkerlaw08_LiveBound.Pure := by
  intro l a hl hl2 hw ha
  refine Ev.rounds (g := fun k => clinkerlaw08_LiveBound.f k l a) ?_
  obtain ⟨n, hn, en⟩ := sectors_nat (wf_u8 ha)
  obtain ⟨l3, br3, ops3, g3, ev3⟩ := made_ev l (fun x hx => wf_u16 (hw x hx)) (by omega) 4 5 (by omega) (by omega) (by omega) (by omega)
  obtain ⟨L, M, Y, q, hL, ev4, ev5, e1, e2, e3⟩ := replay_ev (br := br3) (off := false) (ops := ops3) g3 (by omega) (by omega) n hn
  refine Ev.bind awake_ev (Ev.ite_pos rfl (Ev.bind ev3 ?_))
  rw [en]
  refine Ev.bind ev5 ?_
  exact bound_l0 n hn M Y e1 e2 32 0 (by omega)
end Go.Proofs.Ytfolonajajideaa.X
