/- StatesOne and StatesWear over numbers and lists. -/
import Derived.Test.YtnbhkogjamdfhaaStaMadeLaw
import Derived.Test.YtnbhkogjamdfhaaStaPickOut
import Derived.Test.YtnbhkogjamdfhaaPAllx15
namespace Go.Proofs.Ytnbhkogjamdfhaa.X
open Go.RowKit Go.Proofs.Ytnbhkogjamdfhaa.PAll Go.Proofs.YtnbhkogjamdfhaaW.PrintWords Go.Proofs.YtnbhkogjamdfhaaW.PrintLast Go.Proofs.YtnbhkogjamdfhaaW.PrintMore
set_option linter.unusedVariables false
set_option linter.unusedSimpArgs false
theorem staV_le (l : List Blk) (o i : Int) : 0 ≤ staV l o i ∧ staV l o i ≤ 3 := by
  unfold staV
  split
  · exact staB_le _ _
  · omega
theorem inN_len (l : List Blk) (o s : Int) (k : Nat) : (inN l o s (k + 1)).length = (inN l o s k).length + (if staV l o k = s then 1 else 0) := by
  by_cases h : staV l o k = s
  · rw [inN_hit h, if_pos h]; simp
  · rw [inN_miss h, if_neg h]; rfl
theorem four_sum (l : List Blk) (o : Int) : ∀ k, (inN l o 0 k).length + (inN l o 1 k).length + (inN l o 2 k).length + (inN l o 3 k).length = k
  | 0 => rfl
  | k + 1 => by
    have ih := four_sum l o k
    have hs := staV_le l o k
    rw [inN_len, inN_len, inN_len, inN_len]
    have h4 : staV l o k = 0 ∨ staV l o k = 1 ∨ staV l o k = 2 ∨ staV l o k = 3 := by omega
    rcases h4 with h | h | h | h <;> rw [h] <;> simp <;> omega
theorem closed_out {l : List Blk} {i : Int} (h : staV l (-1) i = 2) : (0 ≤ i ∧ i < l.length) ∧ (rdB l i).f3 = false := by
  unfold staV at h
  split at h
  · rename_i hi
    refine ⟨hi, ?_⟩
    unfold staB at h
    split at h
    · omega
    · rename_i h3
      exact Bool.eq_false_iff.2 h3
  · omega
theorem wrB_erased (x : Blk) : wrB (eraB x 0 0).f0 = false := by
  have e : (eraB x 0 0).f0 = List.replicate (eraN x 0 0).toNat zP ++ x.f0.drop (eraN x 0 0).toNat := rfl
  have en : eraN x 0 0 = (x.f0.length : Int) := by unfold eraN; rw [if_neg (by omega)]
  rw [e, en, Int.toNat_natCast, List.drop_length, List.append_nil]
  unfold wrB
  rw [Bool.eq_false_iff]
  intro h
  obtain ⟨p, hp, h2⟩ := List.any_eq_true.1 h
  rw [List.eq_of_mem_replicate hp] at h2
  cases h2
theorem era_free {l : List Blk} (br : Bool) (ops : Int) {b : Int} (h : staV l (-1) b = 2) : eraV l br false ops b 0 0 = (l.set b.toNat (eraB (rdB l b) 0 0), br, false, wrap64 (ops + 1), 0) ∧ staV (l.set b.toNat (eraB (rdB l b) 0 0)) (-1) b = 0 := by
  obtain ⟨⟨h0, h1⟩, h3⟩ := closed_out h
  constructor
  · unfold eraV
    rw [if_neg (by simp), if_pos (may_iff.2 ⟨h0, h1, by omega, by omega, h3⟩), if_neg (by simp)]
    rfl
  · unfold staV
    rw [if_pos ⟨h0, by rw [List.length_set]; exact h1⟩, rdB_set h0 h1]
    unfold staB
    rw [if_neg (by show ¬ (rdB l b).f3 = true; rw [h3]; simp), if_neg (by rw [decide_eq_false (show ¬ b = -1 by omega)]; simp), if_neg (by rw [wrB_erased]; show ¬ ((0 : Int) ≠ 0 ∨ false = true); simp)]
theorem one_l1 {l : List Blk} (hs : sm l = true) (br : Bool) (ops all : Int) (hall : all = l.length) : ∀ (d i : Nat), l.length - i = d → i ≤ l.length → Ev (fun k => clinkerlaw10_StatesOne.l1 k true all (i : Int) l br false ops) true := by
  have hl := (sm_iff.1 hs).1
  intro d
  induction d with
  | zero =>
    intro i hd hi
    refine Ev.step (fun k => clinkerlaw10_StatesOne.l1.eq_2 ..) (Ev.ite_neg (by omega) (Ev.ite_pos rfl ?_))
    rw [hall, beq_self_eq_true]
    exact Ev.now true
  | succ d ih =>
    intro i hd hi
    have hw : wrap64 ((i : Int) + 1) = ((i + 1 : Nat) : Int) := by rw [wrap64_in (by omega) (by omega)]; omega
    refine Ev.step (fun k => clinkerlaw10_StatesOne.l1.eq_2 ..) (Ev.ite_pos (by omega) (Ev.have_ (rera_f hs _ _ _ _ _ _ _ _) (Ev.have_ (show states_State.f l br false ops (-1) (i : Int) = some (staV l (-1) i) from rfl) ?_)))
    rw [hw]
    by_cases h2 : staV l (-1) (i : Int) = 2
    · obtain ⟨e1, e2⟩ := era_free br ops h2
      rw [e1]
      exact Ev.ite_pos h2 (Ev.ite_pos rfl (Ev.have_ (show states_State.f _ br false (wrap64 (ops + 1)) (-1) (i : Int) = some _ from rfl) (Ev.ite_pos e2 (ih (i + 1) (by omega) (by omega)))))
    · exact Ev.ite_neg h2 (ih (i + 1) (by omega) (by omega))
theorem law_StatesOne : clinkerlaw10_StatesOne.Pure := by
  intro l0 a1 a2 hl hl2 hx h1 h2
  have h1 := wf_u8 h1
  have h2 := wf_u8 h2
  have hx : ∀ x ∈ l0, 0 ≤ x ∧ x ≤ 65535 := fun x hm => by
    have := hx x hm
    simp [Lit.wf, IntKind.min, IntKind.max, IntKind.bits, IntKind.signed] at this
    omega
  have hb := tmod_in a2 h2.1 (show (0 : Int) < 6 by omega)
  have hB : wrap64 (1 + Int.tmod (wrap64 a2) 6) = ((1 + Int.tmod a2 6).toNat : Int) := by rw [tmod_byte (m := 6) h2, wrap64_in (by omega) (by omega)]; omega
  obtain ⟨l, br, ops, hG, hm⟩ := made_ev l0 hx (by omega) (1 + Int.tmod a2 6).toNat 4 (by omega) (by omega) (by omega) (by omega)
  refine Ev.rounds (g := fun k => clinkerlaw10_StatesOne.f k l0 a1 a2) ?_
  unfold clinkerlaw10_StatesOne.f
  rw [hB]
  refine Ev.bind awake_ev (Ev.ite_pos rfl (Ev.bind hm ?_))
  dsimp only
  generalize wrap64 (Int.tmod (wrap64 a1) 8 - 1) = o
  have hsum := four_sum l o l.length
  have hll : l.length ≤ 6 := by rw [hG.2.1]; omega
  have M := fun s => (show states_Many.f l br false ops o s = some (((inN l o s l.length).length : Nat) : Int) from rfl)
  refine Ev.step (fun k => clinkerlaw10_StatesOne.l0.eq_2 ..) (Ev.ite_pos (by omega) (Ev.have_ (M 0) ?_))
  rw [show wrap64 ((0 : Int) + 1) = 1 by have := wrap64_in (i := 0 + 1) (by omega) (by omega); omega, wrap64_in (i := 0 + _) (by omega) (by omega)]
  refine Ev.step (fun k => clinkerlaw10_StatesOne.l0.eq_2 ..) (Ev.ite_pos (by omega) (Ev.have_ (M 1) ?_))
  rw [show wrap64 ((1 : Int) + 1) = 2 by have := wrap64_in (i := 1 + 1) (by omega) (by omega); omega, wrap64_in (i := _ + _) (by omega) (by omega)]
  refine Ev.step (fun k => clinkerlaw10_StatesOne.l0.eq_2 ..) (Ev.ite_pos (by omega) (Ev.have_ (M 2) ?_))
  rw [show wrap64 ((2 : Int) + 1) = 3 by have := wrap64_in (i := 2 + 1) (by omega) (by omega); omega, wrap64_in (i := _ + _) (by omega) (by omega)]
  refine Ev.step (fun k => clinkerlaw10_StatesOne.l0.eq_2 ..) (Ev.ite_pos (by omega) (Ev.have_ (M 3) ?_))
  rw [show wrap64 ((3 : Int) + 1) = 4 by have := wrap64_in (i := 3 + 1) (by omega) (by omega); omega, wrap64_in (i := _ + _) (by omega) (by omega)]
  refine Ev.step (fun k => clinkerlaw10_StatesOne.l0.eq_2 ..) (Ev.ite_neg (by omega) ?_)
  exact one_l1 hG.1 br ops _ (by omega) l.length 0 rfl (by omega)
end Go.Proofs.Ytnbhkogjamdfhaa.X
