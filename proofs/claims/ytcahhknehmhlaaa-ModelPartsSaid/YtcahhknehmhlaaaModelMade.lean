/- The walk of the statements' command by numbers: a closure that picks numbers one by one, and the function round it. -/
import Derived.Test.YtcahhknehmhlaaaModelFew
import Derived.Test.YtcahhknehmhlaaaModelPart
import Derived.Deep.RegionHeld3
namespace Go.Proofs.Ytcahhknehmhlaaa.X
open Go.RowKit Go.Proofs.YtcahhknehmhlaaaW.PrintWords Go.Proofs.YtcahhknehmhlaaaW.PrintLast Go.Proofs.YtcahhknehmhlaaaW.PrintMore

/-- The j-th number that is picked, below n. -/
def pk (l : List Int) (j : Nat) (n : Int) : Int := if j < l.length then (l.getD j 0) % n else 0
theorem pk_in (l : List Int) (j : Nat) {n : Int} (hn : 0 < n) : 0 ≤ pk l j n ∧ pk l j n < n := by
  unfold pk
  by_cases h : j < l.length
  · rw [if_pos h]
    exact ⟨Int.emod_nonneg _ (by omega), Int.emod_lt_of_pos _ hn⟩
  · rw [if_neg h]; omega
set_option maxHeartbeats 2000000 in
set_option maxRecDepth 100000 in
theorem pick_any (A : Option Addr) (c : Nat) (l : List Int) (hl : ∀ x ∈ l, 0 ≤ x ∧ x ≤ 255) (b g : Nat) (j : Nat) (hj : j ≤ 1000) (n : Int) (hn : 0 < n) (hn2 : n ≤ 100000) (w : World) (ha : w.heap[b]? = some (.cells #[.int .i64 j] 3 (0, 0))) (hg : w.heap[g]? = some (.cells #[.slice A l.length c] 34 (0, 0))) (hbg : g ≠ b)
    (hr : ReadsOf (Value.int .u8) (0 : Int) w A l.length l) (hA : 0 < l.length → ∀ ad, A = some ad → ad.block ≠ b) :
    Calls Try.prog 24 #[.int .i64 n, .pointer (some ⟨b, 0, none⟩), .pointer (some ⟨g, 0, none⟩)] w fun e w' => e = .returned (.int .i64 (pk l j n)) ∧ w' = w.setCell ⟨b, 0, none⟩ (.int .i64 ((j + 1 : Nat) : Int)) := by
  have HR := Aside0.mk hr
  have hlen := hr.2.1
  have z0 := (blk_cell ha 0).trans rfl
  have y0 := blk_frozen ha 0
  have z1 := (blk_cell (blk_far hg (p := ⟨b, 0, none⟩) hbg (.int .i64 ((j + 1 : Nat) : Int))) 0).trans rfl
  have z2 := (blk_cell (blk_put ha 0 (.int .i64 ((j + 1 : Nat) : Int)) rfl) 0).trans rfl
  have hw : wrap64 ((j : Int) + 1) = ((j + 1 : Nat) : Int) := by rw [show (j : Int) + 1 = ((j + 1 : Nat) : Int) by omega]; unfold wrap64; omega
  have hw2 : wrap64 (((j + 1 : Nat) : Int) - 1) = (j : Int) := by rw [show ((j + 1 : Nat) : Int) - 1 = (j : Int) by omega]; unfold wrap64; omega
  have ez : ((j + 1 : Nat) : Int) = (j : Int) + 1 := by omega
  rw [ez] at z1 z2 hw2 ⊢
  clear hr
  by_cases hlt : j < l.length
  · obtain ⟨ad, rfl, hcs⟩ := HR.out.2.2 (by omega)
    have c1 := hcs j hlt
    clear hcs
    have hab := hA (by omega) ad rfl
    have c2 : (w.setCell ⟨b, 0, none⟩ (.int .i64 ((j : Int) + 1))).cell? (ad.add j) = some (.int .u8 (l.getD j 0)) := by
      have hk : (ad.add j).block ≠ (⟨b, 0, none⟩ : Addr).block := by rw [add_block]; exact hab
      exact (World.cell?_of_block (w := w) (Below.heap_setCell w ⟨b, 0, none⟩ (.int .i64 ((j : Int) + 1)) (ad.add j).block hk)).trans c1
    have hx : 0 ≤ l.getD j 0 ∧ l.getD j 0 ≤ 255 := by
      rw [List.getD_eq_getElem?_getD, List.getElem?_eq_getElem hlt]
      exact hl _ (List.getElem_mem hlt)
    have hp : pk l j n = (l.getD j 0) % n := by unfold pk; rw [if_pos hlt]
    rw [hp]
    obtain ⟨x, hxx⟩ : ∃ x, l.getD j 0 = x := ⟨_, rfl⟩
    rw [hxx] at c1 c2 hx ⊢
    clear hxx hp hA hab
    have hgt : ¬ ((l.length : Int) < (j : Int) + 1) := by omega
    have hn0 : ¬ n = 0 := by omega
    have hx64 : wrap64 x = x := by unfold wrap64; omega
    go_enter Try.func24, Try.ntmps24
    go_wp2
    go_ret
    exact ⟨rfl, rfl⟩
  · have hp : pk l j n = 0 := by unfold pk; rw [if_neg hlt]
    rw [hp]
    have hgt : (l.length : Int) < (j : Int) + 1 := by omega
    go_enter Try.func24, Try.ntmps24
    go_wp2
    go_ret
    exact ⟨rfl, rfl⟩

/-- The data of a command by numbers; the command. -/
def madeD (l : List Int) : Nat → Nat → List ByteArray → List ByteArray
  | 0, _, ds => ds
  | n + 1, j, ds => madeD l n (j + 1) (ds ++ [few (Int.tdiv (pk l j 50) 6)])
def madeV (l : List Int) : Int × Int × Int × List ByteArray :=
  (rd [2, 2, 2, 3, 1, 4, 2, 3, 0, 5] (pk l 0 10), pk l 1 14 - 1, pk l 2 6, madeD l (pk l 3 5).toNat 4 [])

/-- What the function's own variables hold. -/
structure MS (w : World) (A : Option Addr) (c : Nat) (l : List Int) (kind fi cnt : Int) (vd : Value) (j : Nat) (W : World) : Prop where
  hL : W.heap[w.heap.size]? = some (.cells #[.slice A l.length c] 34 (0, 0))
  hO : W.heap[w.heap.size + 1]? = some (.cells #[.int .i64 0, .int .i64 0, .int .i64 0, .slice none 0 0] 24 (0, 0))
  hR : W.heap[w.heap.size + 1 + 1]? = some (.cells #[.int .i64 kind, .int .i64 fi, .int .i64 cnt, vd] 24 (0, 0))
  hA : W.heap[w.heap.size + 1 + 1 + 1]? = some (.cells #[.int .i64 j] 3 (0, 0))
  hB : Below w.heap.size w W
section
variable {w W : World} {A : Option Addr} {c : Nat} {l : List Int} {kind fi cnt : Int} {vd : Value} {j : Nat}
theorem MS.pick (h : MS w A c l kind fi cnt vd j W) : MS w A c l kind fi cnt vd (j + 1) (W.setCell ⟨w.heap.size + 1 + 1 + 1, 0, none⟩ (.int .i64 ((j + 1 : Nat) : Int))) :=
  ⟨blk_far h.hL (by simp <;> omega) _, blk_far h.hO (by simp <;> omega) _, blk_far h.hR (by simp <;> omega) _, blk_put h.hA 0 _ rfl, h.hB.setCell (by simp; omega) _⟩
theorem MS.set0 (h : MS w A c l kind fi cnt vd j W) (x : Int) : MS w A c l x fi cnt vd j (W.setCell ⟨w.heap.size + 1 + 1, 0, none⟩ (.int .i64 x)) :=
  ⟨blk_far h.hL (by simp; omega) _, blk_far h.hO (by simp) _, blk_put h.hR 0 _ rfl, blk_far h.hA (by simp) _, h.hB.setCell (by simp; omega) _⟩
theorem MS.set1 (h : MS w A c l kind fi cnt vd j W) (x : Int) : MS w A c l kind x cnt vd j (W.setCell ⟨w.heap.size + 1 + 1, 1, none⟩ (.int .i64 x)) :=
  ⟨blk_far h.hL (by simp; omega) _, blk_far h.hO (by simp) _, blk_put h.hR 1 _ rfl, blk_far h.hA (by simp) _, h.hB.setCell (by simp; omega) _⟩
theorem MS.set2 (h : MS w A c l kind fi cnt vd j W) (x : Int) : MS w A c l kind fi x vd j (W.setCell ⟨w.heap.size + 1 + 1, 2, none⟩ (.int .i64 x)) :=
  ⟨blk_far h.hL (by simp; omega) _, blk_far h.hO (by simp) _, blk_put h.hR 2 _ rfl, blk_far h.hA (by simp) _, h.hB.setCell (by simp; omega) _⟩
theorem MS.set3 (h : MS w A c l kind fi cnt vd j W) (x : Value) : MS w A c l kind fi cnt x j (W.setCell ⟨w.heap.size + 1 + 1, 3, none⟩ x) :=
  ⟨blk_far h.hL (by simp; omega) _, blk_far h.hO (by simp) _, blk_put h.hR 3 _ rfl, blk_far h.hA (by simp) _, h.hB.setCell (by simp; omega) _⟩
theorem MS.grown (h : MS w A c l kind fi cnt vd j W) {W1 : World} {row : Option Nat} (hg : W.grownBy W1 row) (hrow : ∀ k, row = some k → w.heap.size + 1 + 1 + 1 < k) : MS w A c l kind fi cnt vd j W1 :=
  ⟨(hg.block _ (blk_lt h.hL) (fun e => by have := hrow _ e.symm; omega)).trans h.hL, (hg.block _ (blk_lt h.hO) (fun e => by have := hrow _ e.symm; omega)).trans h.hO, (hg.block _ (blk_lt h.hR) (fun e => by have := hrow _ e.symm; omega)).trans h.hR, (hg.block _ (blk_lt h.hA) (fun e => by have := hrow _ e.symm; omega)).trans h.hA, h.hB.grown hg (by have := blk_lt h.hL; omega) (fun k e => by have := hrow _ e; omega)⟩
theorem MS.below (h : MS w A c l kind fi cnt vd j W) {W1 : World} (hb : Below W.heap.size W W1) : MS w A c l kind fi cnt vd j W1 :=
  ⟨(hb.block _ (blk_lt h.hL)).trans h.hL, (hb.block _ (blk_lt h.hO)).trans h.hO, (hb.block _ (blk_lt h.hR)).trans h.hR, (hb.block _ (blk_lt h.hA)).trans h.hA, below_step h.hB hb⟩
theorem MS.alloc (h : MS w A c l kind fi cnt vd j W) (o : Obj) : MS w A c l kind fi cnt vd j (W.alloc o) :=
  ⟨(Below.heap_alloc _ _ _ (blk_lt h.hL)).trans h.hL, (Below.heap_alloc _ _ _ (blk_lt h.hO)).trans h.hO, (Below.heap_alloc _ _ _ (blk_lt h.hR)).trans h.hR, (Below.heap_alloc _ _ _ (blk_lt h.hA)).trans h.hA, h.hB.alloc (by have := blk_lt h.hL; omega) o⟩
theorem MS.drew (h : MS w A c l kind fi cnt vd j W) : MS w A c l kind fi cnt vd j W.drew := ⟨h.hL, h.hO, h.hR, h.hA, h.hB.drew⟩
theorem MS.cells (h : MS w A c l kind fi cnt vd j W) : W.cell? ⟨w.heap.size + 1 + 1, 0, none⟩ = some (.int .i64 kind) ∧ W.cell? ⟨w.heap.size + 1 + 1, 1, none⟩ = some (.int .i64 fi) ∧ W.cell? ⟨w.heap.size + 1 + 1, 2, none⟩ = some (.int .i64 cnt) ∧ W.cell? ⟨w.heap.size + 1 + 1, 3, none⟩ = some vd ∧
    W.frozen? ⟨w.heap.size + 1 + 1, 0, none⟩ = false ∧ W.frozen? ⟨w.heap.size + 1 + 1, 1, none⟩ = false ∧ W.frozen? ⟨w.heap.size + 1 + 1, 2, none⟩ = false ∧ W.frozen? ⟨w.heap.size + 1 + 1, 3, none⟩ = false :=
  ⟨(blk_cell h.hR 0).trans rfl, (blk_cell h.hR 1).trans rfl, (blk_cell h.hR 2).trans rfl, (blk_cell h.hR 3).trans rfl, blk_frozen h.hR 0, blk_frozen h.hR 1, blk_frozen h.hR 2, blk_frozen h.hR 3⟩
theorem MS.call (h : MS w A c l kind fi cnt vd j W) (hl : ∀ x ∈ l, 0 ≤ x ∧ x ≤ 255) (hj : j ≤ 1000) (hr : ReadsOf (Value.int .u8) (0 : Int) w A l.length l) (hA : 0 < l.length → ∀ ad, A = some ad → ad.block < w.heap.size) (n : Int) (hn : 0 < n) (hn2 : n ≤ 100000) :
    Calls Try.prog 24 #[.int .i64 n, .pointer (some ⟨w.heap.size + 1 + 1 + 1, 0, none⟩), .pointer (some ⟨w.heap.size, 0, none⟩)] W fun e w' => e = .returned (.int .i64 (pk l j n)) ∧ w' = W.setCell ⟨w.heap.size + 1 + 1 + 1, 0, none⟩ (.int .i64 ((j + 1 : Nat) : Int)) :=
  pick_any A c l hl (w.heap.size + 1 + 1 + 1) w.heap.size j hj n hn hn2 W h.hA h.hL (by omega) (hr.below h.hB) (fun hp ad e => by have := hA hp ad e; omega)
end
theorem fourObj (w : World) (a b c d : Obj) : ((((w.alloc a).alloc b).alloc c).alloc d).heap[w.heap.size]? = some a ∧ ((((w.alloc a).alloc b).alloc c).alloc d).heap[w.heap.size + 1]? = some b ∧ ((((w.alloc a).alloc b).alloc c).alloc d).heap[w.heap.size + 1 + 1]? = some c ∧ ((((w.alloc a).alloc b).alloc c).alloc d).heap[w.heap.size + 1 + 1 + 1]? = some d := by
  have s1 : (w.alloc a).heap.size = w.heap.size + 1 := by simp
  have s2 : ((w.alloc a).alloc b).heap.size = w.heap.size + 1 + 1 := by simp
  have s3 : (((w.alloc a).alloc b).alloc c).heap.size = w.heap.size + 1 + 1 + 1 := by simp
  refine ⟨?_, ?_, ?_, ?_⟩
  · rw [Below.heap_alloc _ _ _ (by omega), Below.heap_alloc _ _ _ (by omega), Below.heap_alloc _ _ _ (by omega)]
    exact alloc_at w a
  · rw [Below.heap_alloc _ _ _ (by omega), Below.heap_alloc _ _ _ (by omega), ← s1]
    exact alloc_at _ b
  · rw [Below.heap_alloc _ _ _ (by omega), ← s2]
    exact alloc_at _ c
  · rw [← s3]
    exact alloc_at _ d
theorem R_stayK {α : Type} {d : Kd α} {e base b : Nat} {W W1 : World} {ok : Nat → Prop} {v : Value} {xs : List α} (h : d.R e W base ok v xs) (hp : b < base) {j : Nat} (u : Value) (hw : W1 = W.setCell ⟨b, j, none⟩ u) : d.R e W1 base ok v xs := by
  subst hw
  exact Kd.R_mono (Kd.R_far (Kd.R_bound h) (fun k hk => by have := hk.2.1; show k ≠ b; omega) u) (fun _ hk => hk.1)
theorem else_E {b : Bool} {X Y E : Prop} (hb : b = true) (h : if b = true then X else Y) : if b = true then X else E := by
  rw [if_pos hb] at h ⊢
  exact h
theorem set4x {w : World} {p t : Nat} {c0 c1 c2 c3 : Value} (a b c d : Value) (h0 : w.heap[p]? = some (.cells #[c0, c1, c2, c3] t (0, 0))) :
    ((((w.setCell ⟨p, 0, none⟩ a).setCell ⟨p, 1, none⟩ b).setCell ⟨p, 2, none⟩ c).setCell ⟨p, 3, none⟩ d).heap[p]? = some (.cells #[a, b, c, d] t (0, 0)) := by
  have a0 := blk_put h0 0 a rfl
  have a1 := blk_put a0 1 b rfl
  have a2 := blk_put a1 2 c rfl
  exact blk_put a2 3 d rfl
theorem R_stay4K {α : Type} {kd : Kd α} {e base p : Nat} {W : World} {ok : Nat → Prop} {v : Value} {xs : List α} (h : kd.R e W base ok v xs) (hp : p < base) (a b c d : Value) : kd.R e ((((W.setCell ⟨p, 0, none⟩ a).setCell ⟨p, 1, none⟩ b).setCell ⟨p, 2, none⟩ c).setCell ⟨p, 3, none⟩ d) base ok v xs :=
  R_stayK (R_stayK (R_stayK (R_stayK h hp a rfl) hp b rfl) hp c rfl) hp d rfl
end Go.Proofs.Ytcahhknehmhlaaa.X
