/- Words on the states' laws: awake, blocks read behind a store. -/
import Derived.Test.YtnbhkogjamdfhaaStaOps
import Derived.Test.YtnbhkogjamdfhaaPAllx8
namespace Go.Proofs.Ytnbhkogjamdfhaa.X
open Go.RowKit Go.Proofs.Ytnbhkogjamdfhaa.PAll Go.Proofs.YtnbhkogjamdfhaaW.PrintWords Go.Proofs.YtnbhkogjamdfhaaW.PrintLast Go.Proofs.YtnbhkogjamdfhaaW.PrintMore
set_option linter.unusedVariables false
set_option linter.unusedSimpArgs false
theorem Ev.of_mono {α : Type} {g : Nat → Option α} {r : α} (hm : ∀ k, LeO (g k) (g (k + 1))) (k0 : Nat) (h : g k0 = some r) : Ev g r :=
  ⟨k0, fun k hk => by
    induction k with
    | zero => obtain rfl : k0 = 0 := by omega
              exact h
    | succ k ih =>
      by_cases e : k0 = k + 1
      · rw [← e]; exact h
      · exact hm k r (ih (by omega))⟩
theorem mem_inN {l : List Blk} {o s : Int} {k i : Nat} : i ∈ inN l o s k ↔ i < k ∧ staV l o i = s := by
  unfold inN
  simp
theorem rdB_mem {l : List Blk} {b : Int} (h0 : 0 ≤ b) (h1 : b < l.length) : rdB l b ∈ l := List.mem_of_getElem? (rdB_at h0 h1)
theorem rdB_set {l : List Blk} {b : Int} (h0 : 0 ≤ b) (h1 : b < l.length) (y : Blk) : rdB (l.set b.toNat y) b = y := by
  show (l.set b.toNat y).getD b.toNat zB = y
  rw [List.getD_eq_getElem?_getD, List.getElem?_set_self (by omega)]
  rfl
theorem rdB_set_ne {l : List Blk} {b i : Int} (h0 : 0 ≤ b) (hi : 0 ≤ i) (hne : i ≠ b) (y : Blk) : rdB (l.set b.toNat y) i = rdB l i := by
  show (l.set b.toNat y).getD i.toNat zB = l.getD i.toNat zB
  rw [List.getD_eq_getElem?_getD, List.getD_eq_getElem?_getD, List.getElem?_set_ne (by omega)]
theorem awake_ev : Ev (fun k => clinkerlaw10_awake.f k) true := Ev.of_mono clinkerlaw10_awake.mono 6 (by kernel_rfl)
end Go.Proofs.Ytnbhkogjamdfhaa.X
