/- Sectors: the two answers are the same, and the guard. -/
import Derived.Test.YtcahhknehmhlaaaModelPure
namespace Go.Proofs.Ytcahhknehmhlaaa.X
open Go.RowKit Go.Proofs.Ytcahhknehmhlaaa.PAll Go.Proofs.YtcahhknehmhlaaaW.PrintWords Go.Proofs.YtcahhknehmhlaaaW.PrintLast Go.Proofs.YtcahhknehmhlaaaW.PrintMore

theorem part_len (l : List ByteArray) (kind first count : Int) (data : List ByteArray) (n : Int) : (partV l kind first count data n).length = l.length := by
  by_cases h : checkV (l.length : Int) kind first count data = 0
  · rw [part_laid h, setMany_length]
  · rw [part_no h]
theorem do_len (l : List ByteArray) (kind first count : Int) (data : List ByteArray) : (doV l kind first count data).1.length = l.length ∧ (doV l kind first count data).2.2.length ≤ l.length := by
  unfold doV
  split
  · split
    · exact ⟨rfl, by simp only [List.length_drop, List.length_take]; omega⟩
    · exact ⟨part_len .., Nat.zero_le _⟩
  · exact ⟨rfl, Nat.zero_le _⟩
theorem same_ev (l : List ByteArray) (kind first count : Int) (data : List ByteArray) (n : Int) (hl : l.length ≤ 8796093022207) : Ev (fun k => clinkerlaw13_same.f k l kind first count data n) true := by
  unfold clinkerlaw13_same.f model_Check.f clinkerref13_Check.f model_Part.f
  rw [mdo_eq l kind first count data hl]
  have hd := do_len l kind first count data
  have hp := part_len l kind first count data n
  refine Ev.pure_ (Ev.bind (rdo_ev l kind first count data hl) (Ev.bind (sames_ev _ (by omega)) (Ev.ite_pos rfl (Ev.bind (samea_ev _ _ (by omega)) (Ev.ite_pos rfl ?_)))))
  rw [if_pos hl]
  refine Ev.pure_ (Ev.bind (rpart_ev l kind first count data n hl) (Ev.bind (sames_ev _ (by omega)) (Ev.ite_pos rfl (Ev.pure_ (Ev.pure_ ?_)))))
  rw [beq_self_eq_true]
  exact Ev.now true
def ab : List ByteArray := [⟨#[97]⟩, ⟨#[98]⟩]
theorem awake_ev : Ev (fun k => clinkerlaw13_awake.f k) true := by
  unfold clinkerlaw13_awake.f
  have e3 : model_New.f 3 = some [⟨#[]⟩, ⟨#[]⟩, ⟨#[]⟩] := by kernel_rfl
  have e2 : model_New.f 2 = some [⟨#[]⟩, ⟨#[]⟩] := by kernel_rfl
  have d1 : model_Do.f [⟨#[]⟩, ⟨#[]⟩, ⟨#[]⟩] 2 1 0 [⟨#[97]⟩, ⟨#[98]⟩] = some ([⟨#[]⟩, ⟨#[97]⟩, ⟨#[98]⟩], 0, []) := by kernel_rfl
  have d2 : model_Do.f [⟨#[]⟩, ⟨#[97]⟩, ⟨#[98]⟩] 1 0 3 [] = some ([⟨#[]⟩, ⟨#[97]⟩, ⟨#[98]⟩], 0, [⟨#[]⟩, ⟨#[97]⟩, ⟨#[98]⟩]) := by kernel_rfl
  have d3 : model_Do.f [⟨#[]⟩, ⟨#[97]⟩, ⟨#[98]⟩] 1 0 4 [] = some ([⟨#[]⟩, ⟨#[97]⟩, ⟨#[98]⟩], 50, []) := by kernel_rfl
  have c1 : model_Check.f 3 0 0 0 [] = some 1 := by kernel_rfl
  have p1 : model_Part.f [⟨#[]⟩, ⟨#[]⟩] 2 0 0 [⟨#[97]⟩, ⟨#[98]⟩] 1 = some [⟨#[97]⟩, ⟨#[]⟩] := by kernel_rfl
  rw [e3]
  refine Ev.pure_ ?_
  rw [d1]
  refine Ev.pure_ ?_
  dsimp only
  rw [d2]
  refine Ev.pure_ ?_
  rw [d3]
  refine Ev.pure_ ?_
  dsimp only
  refine Ev.ite_pos rfl (Ev.bind (sames_ev _ (by decide)) (Ev.ite_pos rfl (Ev.ite_pos rfl ?_)))
  rw [c1]
  refine Ev.pure_ (Ev.ite_pos rfl ?_)
  rw [e2]
  refine Ev.pure_ ?_
  rw [p1]
  exact Ev.pure_ (Ev.bind (sames_ev _ (by decide)) (Ev.now true))
end Go.Proofs.Ytcahhknehmhlaaa.X
