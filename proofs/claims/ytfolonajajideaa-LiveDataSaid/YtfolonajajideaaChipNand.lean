/- The chip's own steps: refused, changed. -/
import Derived.Test.YtfolonajajideaaChipClone
namespace Go.Proofs.Ytfolonajajideaa.X
open Go.RowKit Go.Proofs.Ytfolonajajideaa.PAll Go.Proofs.YtfolonajajideaaW.PrintWords Go.Proofs.YtfolonajajideaaW.PrintLast Go.Proofs.YtfolonajajideaaW.PrintMore
set_option linter.unusedVariables false
set_option linter.unusedSimpArgs false
theorem raw_open {W : World} {base e sz : Nat} {ok : Nat → Prop} {v : Value} {rows : List (List Value)} {n : Nat} (h : (Kd.raw sz).R e W base ok v rows) (hn : rows.length = n) (hp : 0 < n) :
    ∃ (g cap : Nat) (cur : Array Value), v = .slice (some ⟨g, 0, none⟩) n cap ∧ base ≤ g ∧ n ≤ cap ∧ W.heap[g]? = some (.cells cur e (0, 0)) ∧ ∀ (j : Nat) (r : List Value), rows[j]? = some r → r.length = sz ∧ ∀ (i : Nat) (u : Value), r[i]? = some u → cur[j * sz + i]? = some u := by
  subst hn
  obtain ⟨g, cap, cur, hv, hg, _, hc, hh, hat⟩ := R_open h hp
  refine ⟨g, cap, cur, hv, hg, hc, hh, fun j r hr => ?_⟩
  obtain ⟨c, hcl, hM, hcc⟩ := hat j r hr
  obtain rfl : c = r := hM.1
  exact ⟨hcl, hcc⟩
theorem alloc_at (w : World) (o : Obj) : (w.alloc o).heap[w.heap.size]? = some o := heap_alloc_new w o
theorem blk4 {W : World} {g t : Nat} {a b c d : Value} (h : W.heap[g]? = some (.cells #[a, b, c, d] t (0, 0))) :
    W.cell? ⟨g, 0, none⟩ = some a ∧ W.cell? ⟨g, 1, none⟩ = some b ∧ W.cell? ⟨g, 2, none⟩ = some c ∧ W.cell? ⟨g, 3, none⟩ = some d ∧
    W.frozen? ⟨g, 0, none⟩ = false ∧ W.frozen? ⟨g, 1, none⟩ = false ∧ W.frozen? ⟨g, 2, none⟩ = false ∧ W.frozen? ⟨g, 3, none⟩ = false :=
  ⟨(blk_cell h 0).trans rfl, (blk_cell h 1).trans rfl, (blk_cell h 2).trans rfl, (blk_cell h 3).trans rfl, blk_frozen h 0, blk_frozen h 1, blk_frozen h 2, blk_frozen h 3⟩

/-- The pages of a block, cloned and put into it. -/
theorem Held.make {W w1 : World} {ok okp : Nat → Prop} {g base : Nat} {l : List Blk} {b : Nat} {x : Blk} {cur : Array Value} {z : Value} {v2 : Value} {rows : List (List Value)} (hb : b < l.length) (hl : l.length ≤ 1000000) (hp : x.f0.length ≤ 1000000)
    (hh : W.heap[g]? = some (.cells cur 62 (0, 0))) (h0 : cur[b * 4]? = some z) (h1 : cur[b * 4 + 1]? = some (.int .i64 x.f1)) (h2 : cur[b * 4 + 2]? = some (.int .i64 x.f2)) (h3 : cur[b * 4 + 3]? = some (.bool x.f3))
    (ho : ∀ j y, j ≠ b → l[j]? = some y → ∃ c, c.length = 4 ∧ (∀ i u, c[i]? = some u → cur[j * 4 + i]? = some u) ∧ Kd.FK kB W ok y c) (hok : ∀ k, ok k → k ≠ g ∧ k < base) (hg : g < base)
    (hR : (Kd.raw 3).R 54 W base (fun _ => True) v2 rows) (hrl : rows.length = x.f0.length) (hF : ∀ (j : Nat) (q : Pg) (c : List Value), x.f0[j]? = some q → rows[j]? = some c → Kd.FK kP w1 okp q c) :
    ∃ (g2 : Nat) (A2 : Option Addr) (c2 : Nat), v2 = .slice A2 x.f0.length c2 ∧ base ≤ g2 ∧ Held (W.setCell ⟨g, b * 4, none⟩ v2) ok g g2 l b A2 c2 x.f0 x.f1 x.f2 x.f3 := by
  have hcell : ∀ {g2 : Nat} {A2 : Option Addr} {c2 : Nat}, base ≤ g2 → v2 = .slice A2 x.f0.length c2 → x.f0.length ≤ c2 →
      (0 < x.f0.length → A2 = some ⟨g2, 0, none⟩ ∧ ∃ cur : Array Value, W.heap[g2]? = some (.cells cur 54 (0, 0)) ∧ ∀ j p, x.f0[j]? = some p → cur[j * 3]? = some (.bool p.f0) ∧ cur[j * 3 + 1]? = some (.string p.f1) ∧ cur[j * 3 + 2]? = some (.string p.f2)) →
      Held (W.setCell ⟨g, b * 4, none⟩ v2) ok g g2 l b A2 c2 x.f0 x.f1 x.f2 x.f3 := by
    intro g2 A2 c2 hg2 hv hc2 hpg
    refine { ne := by omega, lt := hb, len := hl, plen := hc2, pmax := hp, away := fun k hk => ⟨(hok k hk).1, by have := (hok k hk).2; omega⟩, row := ⟨_, heap_put hh _ v2, by rw [hv]; exact put_self h0, by rw [put_ne (by omega)]; exact h1, by rw [put_ne (by omega)]; exact h2, by rw [put_ne (by omega)]; exact h3, fun j y hj hy => ?_⟩, pages := fun hq => ?_ }
    · obtain ⟨c, hc, hcc, hf⟩ := ho j y hj hy
      refine ⟨c, hc, fun i u hu => ?_, FK_put hf (fun k hk => (hok k hk).1) v2⟩
      have hi : i < 4 := by have := (List.getElem?_eq_some_iff.1 hu).1; omega
      rw [put_ne (by omega)]
      exact hcc i u hu
    · obtain ⟨hA, cur2, hh2, hc⟩ := hpg hq
      exact ⟨hA, cur2, (Below.heap_setCell W ⟨g, b * 4, none⟩ v2 g2 (show g2 ≠ g by omega)).trans hh2, hc⟩
  rcases Nat.eq_zero_or_pos x.f0.length with hz | hpos
  · obtain ⟨A2, c2, hv, hc2, _⟩ := Kd.R_reads hR
    rw [hrl] at hv hc2
    exact ⟨base, A2, c2, hv, Nat.le_refl _, hcell (Nat.le_refl _) hv hc2 (fun h => by omega)⟩
  · obtain ⟨g2, c2, cur2, hv, hg2, hc2, hh2, hat⟩ := raw_open hR hrl hpos
    refine ⟨g2, _, c2, hv, hg2, hcell hg2 hv hc2 (fun _ => ⟨rfl, cur2, hh2, fun j q hj => ?_⟩)⟩
    have hjl : j < rows.length := by have := (List.getElem?_eq_some_iff.1 hj).1; omega
    obtain ⟨r, hr⟩ : ∃ r, rows[j]? = some r := ⟨_, List.getElem?_eq_getElem hjl⟩
    have hk := k54_open (Kd.FK_now (hF j q r hj hr))
    subst hk
    obtain ⟨_, hc⟩ := hat j _ hr
    exact ⟨hc 0 _ rfl, hc 1 _ rfl, hc 2 _ rfl⟩
/-- A row of four cells, written whole. -/
theorem put4 {W : World} {B T : Nat} {a0 b0 c0 d0 : Value} (h : W.heap[B]? = some (.cells #[a0, b0, c0, d0] T (0, 0))) (a b c d : Value) :
    ((((W.setCell ⟨B, 0, none⟩ a).setCell ⟨B, 1, none⟩ b).setCell ⟨B, 2, none⟩ c).setCell ⟨B, 3, none⟩ d).heap[B]? = some (.cells #[a, b, c, d] T (0, 0)) :=
  blk_put (cs := #[a, b, c, d0]) (blk_put (cs := #[a, b, c0, d0]) (blk_put (cs := #[a, b0, c0, d0]) (blk_put h 0 a rfl) 1 b rfl) 2 c rfl) 3 d rfl
theorem far4 (W : World) (B : Nat) (a b c d : Value) {k : Nat} (hk : k ≠ B) : ((((W.setCell ⟨B, 0, none⟩ a).setCell ⟨B, 1, none⟩ b).setCell ⟨B, 2, none⟩ c).setCell ⟨B, 3, none⟩ d).heap[k]? = W.heap[k]? := by
  rw [Below.heap_setCell _ _ _ _ hk, Below.heap_setCell _ _ _ _ hk, Below.heap_setCell _ _ _ _ hk, Below.heap_setCell _ _ _ _ hk]
theorem below4 {w W : World} {B : Nat} (h : Below w.heap.size w W) (hB : w.heap.size ≤ B) (a b c d : Value) : Below w.heap.size w ((((W.setCell ⟨B, 0, none⟩ a).setCell ⟨B, 1, none⟩ b).setCell ⟨B, 2, none⟩ c).setCell ⟨B, 3, none⟩ d) :=
  below_set (below_set (below_set (below_set h hB) hB) hB) hB
/-- May anything be done to a block? -/
def mayB (l : List Blk) (b kind : Int) : Bool := decide (0 ≤ b) && (decide (b < l.length) && (decide (0 ≤ kind) && (decide (kind ≤ 2) && !(rd_T62 l b).f3)))
/-- The error of what may not be done; 0: it may. -/
def refE (l : List Blk) (off : Bool) (b kind : Int) : Int := if off = true then 52 else if mayB l b kind = true then 0 else 1
theorem ref_off (l : List Blk) (b kind : Int) : refE l true b kind = 52 := rfl
theorem ref_ok {l : List Blk} {b kind : Int} (h : mayB l b kind = true) : refE l false b kind = 0 := by unfold refE; rw [if_neg (by simp), if_pos h]
theorem ref_no {l : List Blk} {b kind : Int} (h : mayB l b kind = false) : refE l false b kind = 1 := by unfold refE; rw [if_neg (by simp), if_neg (by simp [h])]
theorem may_iff {l : List Blk} {b kind : Int} : mayB l b kind = true ↔ 0 ≤ b ∧ b < l.length ∧ 0 ≤ kind ∧ kind ≤ 2 ∧ (rd_T62 l b).f3 = false := by
  unfold mayB
  simp [Bool.and_eq_true, decide_eq_true_iff]
end Go.Proofs.Ytfolonajajideaa.X
