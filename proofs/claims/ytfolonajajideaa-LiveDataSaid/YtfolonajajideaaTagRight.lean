/- The walk of the tag's check of a record. -/
import Derived.Test.YtfolonajajideaaTagKeys
namespace Go.Proofs.Ytfolonajajideaa.X
open Go.RowKit Go.Proofs.YtfolonajajideaaW.PrintWords Go.Proofs.YtfolonajajideaaW.PrintLast
theorem alloc_at (w : World) (o : Obj) : (w.alloc o).heap[w.heap.size]? = some o := by
  show (w.heap.push o)[w.heap.size]? = some o
  exact Array.getElem?_push_size
theorem cells4 (w : World) (a b c d : Value) (t : TypeId) : ∀ W, Below (w.alloc (.cells #[a, b, c, d] t)).heap.size (w.alloc (.cells #[a, b, c, d] t)) W →
    W.cell? ⟨w.heap.size, 0, none⟩ = some a ∧ W.cell? ⟨w.heap.size, 1, none⟩ = some b ∧ W.cell? ⟨w.heap.size, 2, none⟩ = some c ∧ W.cell? ⟨w.heap.size, 3, none⟩ = some d ∧
    W.frozen? ⟨w.heap.size, 0, none⟩ = false ∧ W.frozen? ⟨w.heap.size, 1, none⟩ = false ∧ W.frozen? ⟨w.heap.size, 2, none⟩ = false ∧ W.frozen? ⟨w.heap.size, 3, none⟩ = false := fun W h => by
  have hk : W.heap[w.heap.size]? = some (.cells #[a, b, c, d] t (0, 0)) := (h.block _ (by simp)).trans (alloc_at _ _)
  exact ⟨(blk_cell hk 0).trans rfl, (blk_cell hk 1).trans rfl, (blk_cell hk 2).trans rfl, (blk_cell hk 3).trans rfl, blk_frozen hk 0, blk_frozen hk 1, blk_frozen hk 2, blk_frozen hk 3⟩

/-- May this be a record? -/
def rightV (kind seq : Int) (keys vals : List Int) : Bool :=
  if seq < 0 then false else if 1099511627776 < seq then false else if keysV keys = false then false else if vals.any oddV = true then false
  else if kind = 1 then ((vals.length : Int) == 0) else if kind = 2 then ((vals.length : Int) == (keys.length : Int)) else false

end Go.Proofs.Ytfolonajajideaa.X
