/- A row of steps of an index, opened: each is a flag and two bytes. -/
import Derived.Test.YtnmafncghbkogaaIdxFullLaw
import Derived.WalkKit
import Derived.ProofKit
import Derived.OpenShut
import Derived.Deep.Slices
import Derived.Deep.Fields
import Derived.ChangeSame
namespace Go.Proofs.Ytnmafncghbkogaa.X
open Go.RowKit Go.Proofs.Ytnmafncghbkogaa.PAll Go.Proofs.YtnmafncghbkogaaW.PrintWords Go.Proofs.YtnmafncghbkogaaW.PrintLast Go.Proofs.YtnmafncghbkogaaW.PrintMore
set_option linter.unusedVariables false
set_option linter.unusedSimpArgs false
section
open Go.ChangeShapes Go.WideShapes Go.Deep
abbrev St := S28
/-- A step's numbers are bytes. -/
def SB (s : St) : Prop := (0 ≤ s.f1 ∧ s.f1 ≤ 255) ∧ (0 ≤ s.f2 ∧ s.f2 ≤ 255)
theorem list_of {α : Type} {P : Nat → α → Prop} : ∀ n, (∀ i, i < n → ∃ s, P i s) → ∃ zs : List α, zs.length = n ∧ ∀ i s, zs[i]? = some s → P i s
  | 0, _ => ⟨[], rfl, fun i s h => by simp at h⟩
  | n + 1, h => by
    obtain ⟨zs, h1, h2⟩ := list_of n (fun i hi => h i (by omega))
    obtain ⟨s, hs⟩ := h n (by omega)
    refine ⟨zs ++ [s], by simp [h1], fun i t hi => ?_⟩
    rcases Nat.lt_trichotomy i n with hl | rfl | hl
    · rw [List.getElem?_append_left (by omega)] at hi
      exact h2 i t hi
    · rw [List.getElem?_append_right (by omega), h1, Nat.sub_self] at hi
      obtain rfl := Option.some.inj hi
      exact hs
    · rw [List.getElem?_eq_none (by simp; omega)] at hi
      cases hi
theorem open_steps {H : Type} {enc : TypeId × Value → H} {w : World} {base : Nat} {spare : Nat → Bool} {held : Bool} {fuel : Nat} {cs : List Value} {x : DataW H × List MemPlace}
    (h : DataW.trod enc Try.prog w base spare held fuel 22 cs = some x) :
    ∃ (A : Option Addr) (cap : Nat) (zs : List St), cs = [.slice A zs.length cap] ∧ zs.length ≤ cap ∧ zs.length ≤ 9223372036854775807 ∧ Kd.C k28 w A zs.length zs ∧ ∀ s ∈ zs, SB s := by
  have h6 : Try.prog.cellsOf 28 = 3 := by kernel_rfl
  have hu8 : Try.prog.cellsOf 5 = 1 := by kernel_rfl
  have hbo : Try.prog.cellsOf 4 = 1 := by kernel_rfl
  rcases open_slice Try.underlying22 h with ⟨rfl, _⟩ | ⟨a, len, cap, m, n0, D, Pl, rfl, _, hl, hm, hmm, _, hf⟩
  · exact ⟨none, 0, [], rfl, Nat.le_refl _, by simp, Kd.C_nil _ _, fun s hs => by cases hs⟩
  · have hlm : len ≤ m := by rw [hmm]; split <;> omega
    have hq : ∀ i, i < len → ∃ s : St, (∀ j u, [.bool s.f0, .int .u8 s.f1, .int .u8 s.f2][j]? = some u → w.cell? (a.add (i * 3 + j)) = some u) ∧ SB s := by
      intro i hi
      obtain ⟨cs6, hc, hs⟩ := hf i (by omega)
      rw [h6] at hc
      obtain ⟨_, h7, hat⟩ := World.cells?_some hc
      obtain ⟨ys, n, _, _, _, hyl, hf⟩ := DataW.trod_struct Try.underlying28 hs
      match cs6, h7 with
      | [v0, v1, v2], _ =>
      have c0 := hat 0 (by omega)
      have c1 := hat 1 (by omega)
      have c2 := hat 2 (by omega)
      obtain ⟨y0, e0⟩ : ∃ y, ys[0]? = some y := ⟨_, List.getElem?_eq_getElem (show 0 < ys.length by rw [hyl]; decide)⟩
      have t0 : DataW.trod enc Try.prog w base spare held n 4 (([v0, v1, v2].drop 0).take (Try.prog.cellsOf 4)) = ys[0]? := hf 0 _ rfl
      rw [hbo, e0] at t0
      obtain ⟨y1, e1⟩ : ∃ y, ys[1]? = some y := ⟨_, List.getElem?_eq_getElem (show 1 < ys.length by rw [hyl]; decide)⟩
      have t1 : DataW.trod enc Try.prog w base spare held n 5 (([v0, v1, v2].drop 1).take (Try.prog.cellsOf 5)) = ys[1]? := hf 1 _ rfl
      rw [hu8, e1] at t1
      obtain ⟨y2, e2⟩ : ∃ y, ys[2]? = some y := ⟨_, List.getElem?_eq_getElem (show 2 < ys.length by rw [hyl]; decide)⟩
      have t2 : DataW.trod enc Try.prog w base spare held n 5 (([v0, v1, v2].drop 2).take (Try.prog.cellsOf 5)) = ys[2]? := hf 2 _ rfl
      rw [hu8, e2] at t2
      obtain ⟨b0, g0, _⟩ := DataW.trod_bool Try.underlying4 t0
      obtain ⟨b1, g1, _, w1⟩ := DataW.trod_int Try.underlying5 t1
      obtain ⟨b2, g2, _, w2⟩ := DataW.trod_int Try.underlying5 t2
      simp only [List.drop, List.take, List.cons.injEq, and_true] at g0 g1 g2
      subst g0 g1 g2
      refine ⟨⟨b0, b1, b2⟩, fun j u hj => ?_, wf_u8 w1, wf_u8 w2⟩
      match j, hj with
      | 0, hj => obtain rfl := Option.some.inj hj; rw [← Go.Deep.add_add]; exact c0
      | 1, hj => obtain rfl := Option.some.inj hj; rw [← Go.Deep.add_add]; exact c1
      | 2, hj => obtain rfl := Option.some.inj hj; rw [← Go.Deep.add_add]; exact c2
    obtain ⟨zs, rfl, hz⟩ := list_of len hq
    refine ⟨some a, cap, zs, rfl, hl, by unfold maxLen at hm; omega, ⟨rfl, by unfold maxLen at hm; omega, fun _ => ⟨a, rfl, fun j p hp => ⟨_, rfl, k28_mk w p, (hz j p hp).1⟩⟩⟩, fun s hs => ?_⟩
    obtain ⟨i, hi, rfl⟩ := List.getElem_of_mem hs
    exact (hz i _ (List.getElem?_eq_getElem hi)).2
end
end Go.Proofs.Ytnmafncghbkogaa.X
