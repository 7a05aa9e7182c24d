/- Small words for the walks of the tag's functions: a list literal, an array of lists, cells that stay. -/
import Derived.Test.YtpbmcienlbdcbaaTagRight
import Derived.Test.YtpbmcienlbdcbaaTagMoved
import Derived.Deep.RegionHeld3
import Derived.Deep.RegionWith
import Derived.Defers
import Derived.Recover
import Derived.WalkLawsBesides
namespace Go.Proofs.Ytpbmcienlbdcbaa.PAll
open Go.RowKit Go.Proofs.YtpbmcienlbdcbaaW.PrintWords Go.Proofs.YtpbmcienlbdcbaaW.PrintLast Go.Proofs.YtpbmcienlbdcbaaW.PrintMore
theorem idx0 (A B C : Option Addr) (a b c a' b' c' : Nat) (W : World) : (Instr.index 55 (.agg #[.slice A a a', .slice B b b', .slice C c c']) (.int .i64 0)).run Try.prog W = .ok (.slice A a a') W := by
  kernel_rfl
theorem idx1 (A B C : Option Addr) (a b c a' b' c' : Nat) (W : World) : (Instr.index 55 (.agg #[.slice A a a', .slice B b b', .slice C c c']) (.int .i64 1)).run Try.prog W = .ok (.slice B b b') W := by
  kernel_rfl
theorem idx2 (A B C : Option Addr) (a b c a' b' c' : Nat) (W : World) : (Instr.index 55 (.agg #[.slice A a a', .slice B b b', .slice C c c']) (.int .i64 2)).run Try.prog W = .ok (.slice C c c') W := by
  kernel_rfl
/-- A list of two numbers, made on the spot. -/
theorem lit2 {W : World} {g t : Nat} {a b : Int} (hk : W.heap[g]? = some (.cells #[.int .i64 a, .int .i64 b] t (0, 0))) : Kd.C (Kd.int .i64) W (some ⟨g, 0, none⟩) [a, b].length [a, b] := by
  refine Kd.C_of_reads (enc := Value.int .i64) (d := (0 : Int)) (h1 := fun _ => rfl) ⟨rfl, by simp, fun _ => ⟨_, rfl, fun j hj => ?_⟩⟩
  have hj2 : j < 2 := hj
  rw [show (⟨g, 0, none⟩ : Addr).add j = ⟨g, j, none⟩ by simp [Addr.add]; omega, blk_cell hk j]
  match j, hj2 with
  | 0, _ => rfl
  | 1, _ => rfl
theorem cell_keep {W w2 : World} {b i : Nat} {v : Value} (hb : Below W.heap.size W w2) (hc : W.cell? ⟨b, i, none⟩ = some v) : w2.cell? ⟨b, i, none⟩ = some v := by
  rw [hb.cell (World.block_lt_of_cell? _ _ hc)]
  exact hc
theorem ite_some {α : Type} {c : Prop} [Decidable c] {x : Option α} {r : α} (h : (if c then x else none) = some r) : c ∧ x = some r := by
  by_cases hc : c
  · rw [if_pos hc] at h; exact ⟨hc, h⟩
  · rw [if_neg hc] at h; cases h
end Go.Proofs.Ytpbmcienlbdcbaa.PAll
