/- A chip, as a statement is handed it, opened to lists. -/
import Derived.Test.YthjjngfbpoapnaaNandOps
namespace Go.Proofs.Ythjjngfbpoapnaa.X
open Go.RowKit Go.Proofs.Ythjjngfbpoapnaa.PAll Go.Proofs.YthjjngfbpoapnaaW.PrintWords Go.Proofs.YthjjngfbpoapnaaW.PrintLast Go.Proofs.YthjjngfbpoapnaaW.PrintMore
open Go.ChangeShapes Go.WideShapes Go.Deep
set_option linter.unusedVariables false
set_option linter.unusedSimpArgs false
theorem open_pages {H : Type} {enc : TypeId × Value → H} {w : World} {base : Nat} {spare : Nat → Bool} {held : Bool} {fuel : Nat} {cs : List Value} {x : DataW H × List MemPlace}
    (h : DataW.trod enc Try.prog w base spare held fuel 42 cs = some x) :
    ∃ (A : Option Addr) (cap : Nat) (zs : List Pg), cs = [.slice A zs.length cap] ∧ zs.length ≤ cap ∧ zs.length ≤ 9223372036854775807 ∧ Kd.C kP w A zs.length zs := by
  have h6 : Try.prog.cellsOf 46 = 3 := by kernel_rfl
  have hbo : Try.prog.cellsOf 4 = 1 := by kernel_rfl
  have hst : Try.prog.cellsOf 9 = 1 := by kernel_rfl
  rcases open_slice Try.underlying42 h with ⟨rfl, _⟩ | ⟨a, len, cap, m, n0, D, Pl, rfl, _, hl, hm, hmm, _, hf⟩
  · exact ⟨none, 0, [], rfl, Nat.le_refl _, by simp, Kd.C_nil _ _⟩
  · have hlm : len ≤ m := by rw [hmm]; split <;> omega
    have hq : ∀ i, i < len → ∃ s : Pg, ∀ j u, [.bool s.f0, .string s.f1, .string s.f2][j]? = some u → w.cell? (a.add (i * 3 + j)) = some u := by
      intro i hi
      obtain ⟨cs6, hc, hs⟩ := hf i (by omega)
      rw [h6] at hc
      obtain ⟨_, h7, hat⟩ := World.cells?_some hc
      obtain ⟨ys, n, _, _, _, hyl, hf⟩ := DataW.trod_struct Try.underlying46 hs
      match cs6, h7 with
      | [v0, v1, v2], _ =>
      have c0 := hat 0 (by omega)
      have c1 := hat 1 (by omega)
      have c2 := hat 2 (by omega)
      obtain ⟨y0, e0⟩ : ∃ y, ys[0]? = some y := ⟨_, List.getElem?_eq_getElem (show 0 < ys.length by rw [hyl]; decide)⟩
      have t0 : DataW.trod enc Try.prog w base spare held n 4 (([v0, v1, v2].drop 0).take (Try.prog.cellsOf 4)) = ys[0]? := hf 0 _ rfl
      rw [hbo, e0] at t0
      obtain ⟨y1, e1⟩ : ∃ y, ys[1]? = some y := ⟨_, List.getElem?_eq_getElem (show 1 < ys.length by rw [hyl]; decide)⟩
      have t1 : DataW.trod enc Try.prog w base spare held n 9 (([v0, v1, v2].drop 1).take (Try.prog.cellsOf 9)) = ys[1]? := hf 1 _ rfl
      rw [hst, e1] at t1
      obtain ⟨y2, e2⟩ : ∃ y, ys[2]? = some y := ⟨_, List.getElem?_eq_getElem (show 2 < ys.length by rw [hyl]; decide)⟩
      have t2 : DataW.trod enc Try.prog w base spare held n 9 (([v0, v1, v2].drop 2).take (Try.prog.cellsOf 9)) = ys[2]? := hf 2 _ rfl
      rw [hst, e2] at t2
      obtain ⟨b0, g0, _⟩ := DataW.trod_bool Try.underlying4 t0
      obtain ⟨b1, g1, _, _⟩ := DataW.trod_string Try.underlying9 t1
      obtain ⟨b2, g2, _, _⟩ := DataW.trod_string Try.underlying9 t2
      simp only [List.drop, List.take, List.cons.injEq, and_true] at g0 g1 g2
      subst g0 g1 g2
      refine ⟨⟨b0, b1, b2⟩, fun j u hj => ?_⟩
      match j, hj with
      | 0, hj => obtain rfl := Option.some.inj hj; rw [← Go.Deep.add_add]; exact c0
      | 1, hj => obtain rfl := Option.some.inj hj; rw [← Go.Deep.add_add]; exact c1
      | 2, hj => obtain rfl := Option.some.inj hj; rw [← Go.Deep.add_add]; exact c2
    obtain ⟨zs, rfl, hz⟩ := list_of len hq
    exact ⟨some a, cap, zs, rfl, hl, by unfold maxLen at hm; omega, ⟨rfl, by unfold maxLen at hm; omega, fun _ => ⟨a, rfl, fun j p hp => ⟨_, rfl, k46_mk w p, hz j p hp⟩⟩⟩⟩
theorem open_blocks {H : Type} {enc : TypeId × Value → H} {w : World} {base : Nat} {spare : Nat → Bool} {held : Bool} {fuel : Nat} {cs : List Value} {x : DataW H × List MemPlace}
    (h : DataW.trod enc Try.prog w base spare held fuel 25 cs = some x) :
    ∃ (A : Option Addr) (cap : Nat) (zs : List Blk), cs = [.slice A zs.length cap] ∧ zs.length ≤ cap ∧ zs.length ≤ 9223372036854775807 ∧ Kd.C kB w A zs.length zs := by
  have h6 : Try.prog.cellsOf 44 = 4 := by kernel_rfl
  have hsl : Try.prog.cellsOf 42 = 1 := by kernel_rfl
  have hin : Try.prog.cellsOf 3 = 1 := by kernel_rfl
  have hbo : Try.prog.cellsOf 4 = 1 := by kernel_rfl
  rcases open_slice Try.underlying25 h with ⟨rfl, _⟩ | ⟨a, len, cap, m, n0, D, Pl, rfl, _, hl, hm, hmm, _, hf⟩
  · exact ⟨none, 0, [], rfl, Nat.le_refl _, by simp, Kd.C_nil _ _⟩
  · have hlm : len ≤ m := by rw [hmm]; split <;> omega
    have hq : ∀ i, i < len → ∃ s : Blk, ∃ c, c.length = 4 ∧ kB.K w s c ∧ ∀ j u, c[j]? = some u → w.cell? (a.add (i * 4 + j)) = some u := by
      intro i hi
      obtain ⟨cs6, hc, hs⟩ := hf i (by omega)
      rw [h6] at hc
      obtain ⟨_, h7, hat⟩ := World.cells?_some hc
      obtain ⟨ys, n, _, _, _, hyl, hf⟩ := DataW.trod_struct Try.underlying44 hs
      match cs6, h7 with
      | [v0, v1, v2, v3], _ =>
      have c0 := hat 0 (by omega)
      have c1 := hat 1 (by omega)
      have c2 := hat 2 (by omega)
      have c3 := hat 3 (by omega)
      obtain ⟨y0, e0⟩ : ∃ y, ys[0]? = some y := ⟨_, List.getElem?_eq_getElem (show 0 < ys.length by rw [hyl]; decide)⟩
      have t0 : DataW.trod enc Try.prog w base spare held n 42 (([v0, v1, v2, v3].drop 0).take (Try.prog.cellsOf 42)) = ys[0]? := hf 0 _ rfl
      rw [hsl, e0] at t0
      obtain ⟨y1, e1⟩ : ∃ y, ys[1]? = some y := ⟨_, List.getElem?_eq_getElem (show 1 < ys.length by rw [hyl]; decide)⟩
      have t1 : DataW.trod enc Try.prog w base spare held n 3 (([v0, v1, v2, v3].drop 1).take (Try.prog.cellsOf 3)) = ys[1]? := hf 1 _ rfl
      rw [hin, e1] at t1
      obtain ⟨y2, e2⟩ : ∃ y, ys[2]? = some y := ⟨_, List.getElem?_eq_getElem (show 2 < ys.length by rw [hyl]; decide)⟩
      have t2 : DataW.trod enc Try.prog w base spare held n 3 (([v0, v1, v2, v3].drop 2).take (Try.prog.cellsOf 3)) = ys[2]? := hf 2 _ rfl
      rw [hin, e2] at t2
      obtain ⟨y3, e3⟩ : ∃ y, ys[3]? = some y := ⟨_, List.getElem?_eq_getElem (show 3 < ys.length by rw [hyl]; decide)⟩
      have t3 : DataW.trod enc Try.prog w base spare held n 4 (([v0, v1, v2, v3].drop 3).take (Try.prog.cellsOf 4)) = ys[3]? := hf 3 _ rfl
      rw [hbo, e3] at t3
      obtain ⟨A0, cap0, ps, g0, hl0, _, hC0⟩ := open_pages t0
      obtain ⟨b1, g1, _, _⟩ := DataW.trod_int Try.underlying3 t1
      obtain ⟨b2, g2, _, _⟩ := DataW.trod_int Try.underlying3 t2
      obtain ⟨b3, g3, _⟩ := DataW.trod_bool Try.underlying4 t3
      simp only [List.drop, List.take, List.cons.injEq, and_true] at g0 g1 g2 g3
      subst g0 g1 g2 g3
      refine ⟨⟨ps, b1, b2, b3⟩, _, rfl, k44_mk w ⟨ps, b1, b2, b3⟩ hl0 hC0, fun j u hj => ?_⟩
      match j, hj with
      | 0, hj => obtain rfl := Option.some.inj hj; rw [← Go.Deep.add_add]; exact c0
      | 1, hj => obtain rfl := Option.some.inj hj; rw [← Go.Deep.add_add]; exact c1
      | 2, hj => obtain rfl := Option.some.inj hj; rw [← Go.Deep.add_add]; exact c2
      | 3, hj => obtain rfl := Option.some.inj hj; rw [← Go.Deep.add_add]; exact c3
    obtain ⟨zs, rfl, hz⟩ := list_of len hq
    refine ⟨some a, cap, zs, rfl, hl, by unfold maxLen at hm; omega, ⟨rfl, by unfold maxLen at hm; omega, fun _ => ⟨a, rfl, fun j p hp => ?_⟩⟩⟩
    obtain ⟨c, h1, h2, h3⟩ := hz j p hp
    exact ⟨c, h1, h2, h3⟩
end Go.Proofs.Ythjjngfbpoapnaa.X
