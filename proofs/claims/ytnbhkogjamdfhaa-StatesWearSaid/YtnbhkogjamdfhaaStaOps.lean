/- What the laws of the states lean on: rows of steps, programs and erases keep few pages; the calls as equations. -/
import Derived.Test.YtnbhkogjamdfhaaNandAwake
import Derived.Test.YtnbhkogjamdfhaaPAllx3
import Derived.Test.YtnbhkogjamdfhaaPAllx5
import Derived.Test.YtnbhkogjamdfhaaPAllx9
import Derived.WalkKit
import Derived.ProofKit
import Derived.OpenShut
import Derived.Deep.Slices
import Derived.Deep.Fields
import Derived.ChangeSame
namespace Go.Proofs.Ytnbhkogjamdfhaa.X
open Go.RowKit Go.Proofs.Ytnbhkogjamdfhaa.PAll Go.Proofs.YtnbhkogjamdfhaaW.PrintWords Go.Proofs.YtnbhkogjamdfhaaW.PrintLast Go.Proofs.YtnbhkogjamdfhaaW.PrintMore
set_option linter.unusedVariables false
set_option linter.unusedSimpArgs false
theorem Ev.have_ {α β : Type} {x : Option α} {a : α} {f : Nat → α → Option β} {r : β} (hx : x = some a) (h : Ev (fun k => f k a) r) : Ev (fun k => x.bind (f k)) r := by
  subst hx
  exact h
theorem rprog_f {l : List Blk} (h : sm l = true) (br off : Bool) (ops b p : Int) (pw : Bool) (d t : ByteArray) (kind : Int) (fd ft : ByteArray) (n : Int) : clinkerref05_Program.f l br off ops b p pw d t kind fd ft n = some (progV l br off ops b p d t kind fd ft) := if_pos h
theorem rera_f {l : List Blk} (h : sm l = true) (br off : Bool) (ops b kind : Int) (fd ft : ByteArray) (n : Int) : clinkerref05_Erase.f l br off ops b kind fd ft n = some (eraV l br off ops b kind n) := if_pos h
section
open Go.ChangeShapes Go.WideShapes Go.Deep
open Go.ChangeShapes Go.WideShapes Go.Deep
abbrev St := S38
theorem wf_u8 {a : Int} (h : (Lit.int .u8 a).wf = true) : 0 ≤ a ∧ a ≤ 255 := by
  simp [Lit.wf, IntKind.min, IntKind.max, IntKind.bits, IntKind.signed] at h
  omega
/-- A step's numbers are bytes. -/
def SB (s : St) : Prop := (0 ≤ s.f0 ∧ s.f0 ≤ 255) ∧ (0 ≤ s.f1 ∧ s.f1 ≤ 255) ∧ (0 ≤ s.f2 ∧ s.f2 ≤ 255) ∧ (0 ≤ s.f3 ∧ s.f3 ≤ 255)
theorem list_of {α : Type} {P : Nat → α → Prop} : ∀ n, (∀ i, i < n → ∃ s, P i s) → ∃ zs : List α, zs.length = n ∧ ∀ i s, zs[i]? = some s → P i s
  | 0, _ => ⟨[], rfl, fun i s h => by simp at h⟩
  | n + 1, h => by
    obtain ⟨zs, h1, h2⟩ := list_of n (fun i hi => h i (by omega))
    obtain ⟨s, hs⟩ := h n (by omega)
    refine ⟨zs ++ [s], by simp [h1], fun i t hi => ?_⟩
    rcases Nat.lt_trichotomy i n with hl | rfl | hl
    · rw [List.getElem?_append_left (by omega)] at hi
      exact h2 i t hi
    · rw [List.getElem?_append_right (by omega), h1, Nat.sub_self] at hi
      obtain rfl := Option.some.inj hi
      exact hs
    · rw [List.getElem?_eq_none (by simp; omega)] at hi
      cases hi
theorem open_steps {H : Type} {enc : TypeId × Value → H} {w : World} {base : Nat} {spare : Nat → Bool} {held : Bool} {fuel : Nat} {cs : List Value} {x : DataW H × List MemPlace}
    (h : DataW.trod enc Try.prog w base spare held fuel 35 cs = some x) :
    ∃ (A : Option Addr) (cap : Nat) (zs : List St), cs = [.slice A zs.length cap] ∧ zs.length ≤ cap ∧ zs.length ≤ 9223372036854775807 ∧ Kd.C k38 w A zs.length zs ∧ ∀ s ∈ zs, SB s := by
  have h6 : Try.prog.cellsOf 38 = 6 := by kernel_rfl
  have hu8 : Try.prog.cellsOf 5 = 1 := by kernel_rfl
  have hst : Try.prog.cellsOf 9 = 1 := by kernel_rfl
  rcases open_slice Try.underlying35 h with ⟨rfl, _⟩ | ⟨a, len, cap, m, n0, D, Pl, rfl, _, hl, hm, hmm, _, hf⟩
  · exact ⟨none, 0, [], rfl, Nat.le_refl _, by simp, Kd.C_nil _ _, fun s hs => by cases hs⟩
  · have hlm : len ≤ m := by rw [hmm]; split <;> omega
    have hq : ∀ i, i < len → ∃ s : St, (∀ j u, [.int .u8 s.f0, .int .u8 s.f1, .int .u8 s.f2, .int .u8 s.f3, .string s.f4, .string s.f5][j]? = some u → w.cell? (a.add (i * 6 + j)) = some u) ∧ SB s := by
      intro i hi
      obtain ⟨cs6, hc, hs⟩ := hf i (by omega)
      rw [h6] at hc
      obtain ⟨_, h7, hat⟩ := World.cells?_some hc
      obtain ⟨ys, n, _, _, _, hyl, hf⟩ := DataW.trod_struct Try.underlying38 hs
      match cs6, h7 with
      | [v0, v1, v2, v3, v4, v5], _ =>
      have c0 := hat 0 (by omega)
      have c1 := hat 1 (by omega)
      have c2 := hat 2 (by omega)
      have c3 := hat 3 (by omega)
      have c4 := hat 4 (by omega)
      have c5 := hat 5 (by omega)
      obtain ⟨y0, e0⟩ : ∃ y, ys[0]? = some y := ⟨_, List.getElem?_eq_getElem (show 0 < ys.length by rw [hyl]; decide)⟩
      have t0 : DataW.trod enc Try.prog w base spare held n 5 (([v0, v1, v2, v3, v4, v5].drop 0).take (Try.prog.cellsOf 5)) = ys[0]? := hf 0 _ rfl
      rw [hu8, e0] at t0
      obtain ⟨y1, e1⟩ : ∃ y, ys[1]? = some y := ⟨_, List.getElem?_eq_getElem (show 1 < ys.length by rw [hyl]; decide)⟩
      have t1 : DataW.trod enc Try.prog w base spare held n 5 (([v0, v1, v2, v3, v4, v5].drop 1).take (Try.prog.cellsOf 5)) = ys[1]? := hf 1 _ rfl
      rw [hu8, e1] at t1
      obtain ⟨y2, e2⟩ : ∃ y, ys[2]? = some y := ⟨_, List.getElem?_eq_getElem (show 2 < ys.length by rw [hyl]; decide)⟩
      have t2 : DataW.trod enc Try.prog w base spare held n 5 (([v0, v1, v2, v3, v4, v5].drop 2).take (Try.prog.cellsOf 5)) = ys[2]? := hf 2 _ rfl
      rw [hu8, e2] at t2
      obtain ⟨y3, e3⟩ : ∃ y, ys[3]? = some y := ⟨_, List.getElem?_eq_getElem (show 3 < ys.length by rw [hyl]; decide)⟩
      have t3 : DataW.trod enc Try.prog w base spare held n 5 (([v0, v1, v2, v3, v4, v5].drop 3).take (Try.prog.cellsOf 5)) = ys[3]? := hf 3 _ rfl
      rw [hu8, e3] at t3
      obtain ⟨y4, e4⟩ : ∃ y, ys[4]? = some y := ⟨_, List.getElem?_eq_getElem (show 4 < ys.length by rw [hyl]; decide)⟩
      have t4 : DataW.trod enc Try.prog w base spare held n 9 (([v0, v1, v2, v3, v4, v5].drop 4).take (Try.prog.cellsOf 9)) = ys[4]? := hf 4 _ rfl
      rw [hst, e4] at t4
      obtain ⟨y5, e5⟩ : ∃ y, ys[5]? = some y := ⟨_, List.getElem?_eq_getElem (show 5 < ys.length by rw [hyl]; decide)⟩
      have t5 : DataW.trod enc Try.prog w base spare held n 9 (([v0, v1, v2, v3, v4, v5].drop 5).take (Try.prog.cellsOf 9)) = ys[5]? := hf 5 _ rfl
      rw [hst, e5] at t5
      obtain ⟨b0, g0, _, w0⟩ := DataW.trod_int Try.underlying5 t0
      obtain ⟨b1, g1, _, w1⟩ := DataW.trod_int Try.underlying5 t1
      obtain ⟨b2, g2, _, w2⟩ := DataW.trod_int Try.underlying5 t2
      obtain ⟨b3, g3, _, w3⟩ := DataW.trod_int Try.underlying5 t3
      obtain ⟨b4, g4, _, _⟩ := DataW.trod_string Try.underlying9 t4
      obtain ⟨b5, g5, _, _⟩ := DataW.trod_string Try.underlying9 t5
      simp only [List.drop, List.take, List.cons.injEq, and_true] at g0 g1 g2 g3 g4 g5
      subst g0 g1 g2 g3 g4 g5
      refine ⟨⟨b0, b1, b2, b3, b4, b5⟩, fun j u hj => ?_, wf_u8 w0, wf_u8 w1, wf_u8 w2, wf_u8 w3⟩
      match j, hj with
      | 0, hj => obtain rfl := Option.some.inj hj; rw [← Go.Deep.add_add]; exact c0
      | 1, hj => obtain rfl := Option.some.inj hj; rw [← Go.Deep.add_add]; exact c1
      | 2, hj => obtain rfl := Option.some.inj hj; rw [← Go.Deep.add_add]; exact c2
      | 3, hj => obtain rfl := Option.some.inj hj; rw [← Go.Deep.add_add]; exact c3
      | 4, hj => obtain rfl := Option.some.inj hj; rw [← Go.Deep.add_add]; exact c4
      | 5, hj => obtain rfl := Option.some.inj hj; rw [← Go.Deep.add_add]; exact c5
    obtain ⟨zs, rfl, hz⟩ := list_of len hq
    refine ⟨some a, cap, zs, rfl, hl, by unfold maxLen at hm; omega, ⟨rfl, by unfold maxLen at hm; omega, fun _ => ⟨a, rfl, fun j p hp => ⟨_, rfl, k38_mk w p, (hz j p hp).1⟩⟩⟩, fun s hs => ?_⟩
    obtain ⟨i, hi, rfl⟩ := List.getElem_of_mem hs
    exact (hz i _ (List.getElem?_eq_getElem hi)).2
end
theorem all_set {P : Blk → Prop} {l : List Blk} (h : ∀ x ∈ l, P x) {y : Blk} (hy : P y) (i : Nat) : ∀ x ∈ l.set i y, P x := by
  intro x hx
  rcases List.mem_or_eq_of_mem_set hx with hx | rfl
  · exact h x hx
  · exact hy
theorem rdB_all {P : Blk → Prop} {l : List Blk} (h : ∀ x ∈ l, P x) (hz : P zB) (b : Int) : P (rdB l b) := by
  show P (l.getD b.toNat zB)
  rw [List.getD_eq_getElem?_getD]
  cases hb : l[b.toNat]? with
  | none => exact hz
  | some x => exact h x (List.mem_of_getElem? hb)
theorem sm_set {l : List Blk} (h : sm l = true) {y : Blk} (hy : y.f0.length ≤ 1000000) (i : Nat) : sm (l.set i y) = true := by
  obtain ⟨h0, h1⟩ := sm_iff.1 h
  exact sm_iff.2 ⟨by rw [List.length_set]; exact h0, all_set (P := fun x => x.f0.length ≤ 1000000) h1 hy i⟩
theorem sm_rd {l : List Blk} (h : sm l = true) (b : Int) : (rdB l b).f0.length ≤ 1000000 :=
  rdB_all (P := fun x => x.f0.length ≤ 1000000) (sm_iff.1 h).2 (show (0 : Nat) ≤ 1000000 by omega) b
theorem progB_len (x : Blk) (p kind : Int) (d t fd ft : ByteArray) : (progB x p kind d t fd ft).f0.length = x.f0.length := by
  unfold progB
  exact List.length_set
theorem upTo_le (n k : Int) (hk : 0 ≤ k) : 0 ≤ upTo n k ∧ upTo n k ≤ k := by
  unfold upTo
  split <;> split <;> omega
theorem eraN_le (x : Blk) (kind n : Int) : 0 ≤ eraN x kind n ∧ eraN x kind n ≤ x.f0.length := by
  unfold eraN
  split
  · exact upTo_le n x.f0.length (by omega)
  · omega
theorem eraB_len (x : Blk) (kind n : Int) : (eraB x kind n).f0.length = x.f0.length := by
  have := eraN_le x kind n
  unfold eraB
  simp
  omega
theorem sm_prog {l : List Blk} (h : sm l = true) (br off : Bool) (ops b p : Int) (d t : ByteArray) (kind : Int) (fd ft : ByteArray) : sm (progV l br off ops b p d t kind fd ft).1 = true := by
  unfold progV
  split
  · exact h
  · split
    · exact sm_set h (by rw [progB_len]; exact sm_rd h b) _
    · exact h
theorem sm_era {l : List Blk} (h : sm l = true) (br off : Bool) (ops b kind n : Int) : sm (eraV l br off ops b kind n).1 = true := by
  unfold eraV
  split
  · exact h
  · split
    · split
      · exact sm_set h (y := ⟨(rdB l b).f0, (rdB l b).f1, (rdB l b).f2, true⟩) (sm_rd h b) _
      · exact sm_set h (by rw [eraB_len]; exact sm_rd h b) _
    · exact h
theorem rowL_len (n : Nat) (ps : List Pg) (S : List Int) : (rowL n ps S).length = n := by simp [rowL]
theorem rowL_mem {n : Nat} {ps : List Pg} {S : List Int} {x : Blk} (h : x ∈ rowL n ps S) : x.f0 = ps ∧ x.f1 = 0 := by
  obtain ⟨j, _, rfl⟩ := List.mem_map.1 h
  exact ⟨rfl, rfl⟩
theorem sm_new (blocks pages : Int) (bad : List Int) : sm (newV blocks pages bad).1 = true := by
  unfold newV
  split
  · rfl
  · rename_i h
    refine sm_iff.2 ⟨by rw [rowL_len]; omega, fun x hx => ?_⟩
    rw [(rowL_mem hx).1, List.length_replicate]
    omega
theorem new_good {blocks pages : Int} (h1 : 1 ≤ blocks) (h2 : blocks ≤ 32) (h3 : 1 ≤ pages) (h4 : pages ≤ 16) : newV blocks pages [] = (rowL blocks.toNat (List.replicate pages.toNat zP) [], false, false, 0, 0) := by
  unfold newV
  rw [if_neg]
  simp
  omega
theorem tmod_byte {a m : Int} (h : 0 ≤ a ∧ a ≤ 255) : wrap64 a = a := wrap64_in (by omega) (by omega)
theorem tmod_in (a : Int) {m : Int} (h : 0 ≤ a) (hm : 0 < m) : 0 ≤ Int.tmod a m ∧ Int.tmod a m < m := ⟨Int.tmod_nonneg m h, Int.tmod_lt_of_pos a hm⟩
end Go.Proofs.Ytnbhkogjamdfhaa.X
