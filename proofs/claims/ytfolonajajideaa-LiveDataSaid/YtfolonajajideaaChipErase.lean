/- nand.Erase: what it makes of a chip. -/
import Derived.Test.YtfolonajajideaaChipProg
import Derived.Lib.SliceRun
import Derived.Laws.IdiomCopy
namespace Go.Proofs.Ytfolonajajideaa.X
open Go.RowKit Go.Proofs.Ytfolonajajideaa.PAll Go.Proofs.YtfolonajajideaaW.PrintWords Go.Proofs.YtfolonajajideaaW.PrintLast Go.Proofs.YtfolonajajideaaW.PrintMore
set_option linter.unusedVariables false
set_option linter.unusedSimpArgs false
attribute [local go_sem] max2_int min2_int max_two min_two max_three min_three max_four min_four
/-- n, but from 0 to k. -/
def upTo (n k : Int) : Int := if k < (if n < 0 then 0 else n) then k else (if n < 0 then 0 else n)
/-- How many pages an erase makes free. -/
def eraN (x : Blk) (kind n : Int) : Int := if kind = 2 then upTo n x.f0.length else x.f0.length
/-- A block erased (well, or cut). -/
def eraB (x : Blk) (kind n : Int) : Blk := ⟨List.replicate (eraN x kind n).toNat zP ++ x.f0.drop (eraN x kind n).toNat, if kind = 2 then (x.f0.length : Int) else 0, wrap64 (x.f2 + 1), x.f3⟩
/-- A chip behind an erase: its blocks, Broken, Off, Ops, the error. -/
def eraV (l : List Blk) (br off : Bool) (ops b kind n : Int) : List Blk × Bool × Bool × Int × Int :=
  if off = true then (l, br, off, ops, 52)
  else if mayB l b kind = true then
    if kind = 1 then (l.set b.toNat ⟨(rdB l b).f0, (rdB l b).f1, (rdB l b).f2, true⟩, br, false, wrap64 (ops + 1), 53)
    else (l.set b.toNat (eraB (rdB l b) kind n), br, decide (kind = 2), wrap64 (ops + 1), if kind = 2 then 52 else 0)
  else (l, true, off, ops, 1)
theorem upTo_facts {n k : Int} (hk : 0 ≤ k) : 0 ≤ upTo n k ∧ upTo n k ≤ k := by
  unfold upTo
  split <;> split <;> omega

/-- The cells of m erased pages. -/
def zc : Nat → List Value
  | 0 => []
  | m + 1 => zc m ++ [.bool false, .string ⟨#[]⟩, .string ⟨#[]⟩]
theorem zc_length : ∀ m, (zc m).length = m * 3
  | 0 => rfl
  | m + 1 => by rw [zc, List.length_append, zc_length m]; simp; omega
theorem setCells_append (b : Nat) : ∀ (u v : List Value) (o : Nat) (w : World), w.setCells b o (u ++ v) = (w.setCells b o u).setCells b (o + u.length) v
  | [], v, o, w => by simp [World.setCells]
  | x :: u, v, o, w => by
    rw [List.cons_append, World.setCells, World.setCells, setCells_append b u v (o + 1)]
    simp [Nat.add_assoc, Nat.add_comm 1]
section
variable {W : World} {ok : Nat → Prop} {g g2 : Nat} {l : List Blk} {b : Nat} {A2 : Option Addr} {c2 : Nat} {ps : List Pg} {nx er : Int} {bad : Bool}
theorem Held.clear (h : Held W ok g g2 l b A2 c2 ps nx er bad) : ∀ m, m ≤ ps.length → Held (W.setCells g2 0 (zc m)) ok g g2 l b A2 c2 (List.replicate m zP ++ ps.drop m) nx er bad
  | 0, _ => by simpa [zc, World.setCells] using h
  | m + 1, hm => by
    have h1 := Held.clear h m (by omega)
    have h2 := h1.pset (j := m) (by simp; omega) zP
    have e1 : (List.replicate m zP ++ ps.drop m).set m zP = List.replicate (m + 1) zP ++ ps.drop (m + 1) := by
      rw [List.set_append_right _ _ (by simp)]
      rw [List.length_replicate, Nat.sub_self, List.drop_eq_getElem_cons (by omega), List.set_cons_zero, List.replicate_succ', List.append_assoc]
      rfl
    rw [e1] at h2
    rw [zc, setCells_append, zc_length, Nat.zero_add]
    exact h2
end
/-- The three rows that Erase holds: the chip, the fate, the answer. -/
structure Three (W : World) (B : Nat) (v : Value) (br off : Bool) (ops kind : Int) (fd ft : ByteArray) (n : Int) (c0 c1 c2 c3 : Value) : Prop where
  chip : W.heap[B]? = some (.cells #[v, .bool br, .bool off, .int .i64 ops] 32 (0, 0))
  fate : W.heap[B + 1]? = some (.cells #[.int .i64 kind, .string fd, .string ft, .int .i64 n] 57 (0, 0))
  ret : W.heap[B + 1 + 1]? = some (.cells #[c0, c1, c2, c3] 32 (0, 0))
theorem Three.below {W1 : World} {W : World} {B : Nat} {v : Value} {br off : Bool} {ops kind : Int} {fd ft : ByteArray} {n : Int} {c0 c1 c2 c3 : Value} (h : Three W B v br off ops kind fd ft n c0 c1 c2 c3) (hb : Below W.heap.size W W1) : Three W1 B v br off ops kind fd ft n c0 c1 c2 c3 :=
  ⟨(hb.block _ (blk_lt h.chip)).trans h.chip, (hb.block _ (blk_lt h.fate)).trans h.fate, (hb.block _ (blk_lt h.ret)).trans h.ret⟩
theorem Three.put {W : World} {B : Nat} {v : Value} {br off : Bool} {ops kind : Int} {fd ft : ByteArray} {n : Int} {c0 c1 c2 c3 : Value} (h : Three W B v br off ops kind fd ft n c0 c1 c2 c3) (v' : Value) (br' off' : Bool) (ops' : Int) : Three ((((W.setCell ⟨B, 0, none⟩ v').setCell ⟨B, 1, none⟩ (.bool br')).setCell ⟨B, 2, none⟩ (.bool off')).setCell ⟨B, 3, none⟩ (.int .i64 ops')) B v' br' off' ops' kind fd ft n c0 c1 c2 c3 :=
  ⟨put4 h.chip _ _ _ _, (far4 _ _ _ _ _ _ (by omega)).trans h.fate, (far4 _ _ _ _ _ _ (by omega)).trans h.ret⟩
theorem Three.putR {W : World} {B : Nat} {v : Value} {br off : Bool} {ops kind : Int} {fd ft : ByteArray} {n : Int} {c0 c1 c2 c3 : Value} (h : Three W B v br off ops kind fd ft n c0 c1 c2 c3) (d0 d1 d2 d3 : Value) : Three ((((W.setCell ⟨B + 1 + 1, 0, none⟩ d0).setCell ⟨B + 1 + 1, 1, none⟩ d1).setCell ⟨B + 1 + 1, 2, none⟩ d2).setCell ⟨B + 1 + 1, 3, none⟩ d3) B v br off ops kind fd ft n d0 d1 d2 d3 :=
  ⟨(far4 _ _ _ _ _ _ (by omega)).trans h.chip, (far4 _ _ _ _ _ _ (by omega)).trans h.fate, put4 h.ret _ _ _ _⟩
theorem Three.cut {W : World} {B : Nat} {v : Value} {br off : Bool} {ops kind : Int} {fd ft : ByteArray} {n : Int} {c0 c1 c2 c3 : Value} (h : Three W B v br off ops kind fd ft n c0 c1 c2 c3) (x : Bool) : Three (W.setCell ⟨B, 2, none⟩ (.bool x)) B v br x ops kind fd ft n c0 c1 c2 c3 :=
  ⟨blk_put h.chip 2 (.bool x) rfl, (Below.heap_setCell _ _ _ _ (by simp)).trans h.fate, (Below.heap_setCell _ _ _ _ (show B + 1 + 1 ≠ B by omega)).trans h.ret⟩
theorem Three.far {W1 : World} {W : World} {B : Nat} {v : Value} {br off : Bool} {ops kind : Int} {fd ft : ByteArray} {n : Int} {c0 c1 c2 c3 : Value} (h : Three W B v br off ops kind fd ft n c0 c1 c2 c3) (hb : ∀ k, B ≤ k → k ≤ B + 1 + 1 → W1.heap[k]? = W.heap[k]?) : Three W1 B v br off ops kind fd ft n c0 c1 c2 c3 :=
  ⟨(hb _ (by omega) (by omega)).trans h.chip, (hb _ (by omega) (by omega)).trans h.fate, (hb _ (by omega) (by omega)).trans h.ret⟩
theorem three_start (w : World) (v : Value) (br off : Bool) (ops kind : Int) (fd ft : ByteArray) (n : Int) : ∃ W0 : World,
    ((w.alloc (.cells #[v, .bool br, .bool off, .int .i64 ops] 32)).alloc (.cells #[.int .i64 kind, .string fd, .string ft, .int .i64 n] 57)).alloc (.cells #[.slice none 0 0, .bool false, .bool false, .int .i64 0] 32) = W0 ∧
    Three W0 w.heap.size v br off ops kind fd ft n (.slice none 0 0) (.bool false) (.bool false) (.int .i64 0) ∧ Below w.heap.size w W0 ∧ W0.heap.size = w.heap.size + 3 := by
  refine ⟨_, rfl, ⟨?_, ?_, ?_⟩, ((((Below.refl _ w).alloc (Nat.le_refl _) _).alloc (by simp) _).alloc (by simp; omega) _), by simp⟩
  · exact blk_alloc (blk_alloc (alloc_at _ _) _) _
  · exact blk_alloc (by have := alloc_at (w.alloc (.cells #[v, .bool br, .bool off, .int .i64 ops] 32)) (.cells #[.int .i64 kind, .string fd, .string ft, .int .i64 n] 57); simpa using this) _
  · have := alloc_at ((w.alloc (.cells #[v, .bool br, .bool off, .int .i64 ops] 32)).alloc (.cells #[.int .i64 kind, .string fd, .string ft, .int .i64 n] 57)) (.cells #[.slice none 0 0, .bool false, .bool false, .int .i64 0] 32)
    simpa using this

end Go.Proofs.Ytfolonajajideaa.X

