/- nand.Program: what it makes of a chip. -/
import Derived.Test.YtfolonajajideaaChipNand
namespace Go.Proofs.Ytfolonajajideaa.X
open Go.RowKit Go.Proofs.Ytfolonajajideaa.PAll Go.Proofs.YtfolonajajideaaW.PrintWords Go.Proofs.YtfolonajajideaaW.PrintLast Go.Proofs.YtfolonajajideaaW.PrintMore
set_option linter.unusedVariables false
set_option linter.unusedSimpArgs false
abbrev rdB (l : List Blk) (b : Int) : Blk := rd_T62 l b
/-- May a page be programmed? -/
def mayP (l : List Blk) (b p kind : Int) : Bool := mayB l b kind && (decide (0 ≤ p) && (decide (p < (rdB l b).f0.length) && decide ((rdB l b).f1 = p)))
/-- A block with a page more. -/
def progB (x : Blk) (p kind : Int) (d t fd ft : ByteArray) : Blk := ⟨x.f0.set p.toNat ⟨true, if kind = 0 then d else fd, if kind = 0 then t else ft⟩, p + 1, x.f2, decide (kind = 1)⟩
/-- A chip behind a program: its blocks, Broken, Off, Ops, the error. -/
def progV (l : List Blk) (br off : Bool) (ops b p : Int) (d t : ByteArray) (kind : Int) (fd ft : ByteArray) : List Blk × Bool × Bool × Int × Int :=
  if off = true then (l, br, off, ops, 52)
  else if mayP l b p kind = true then (l.set b.toNat (progB (rdB l b) p kind d t fd ft), br, decide (kind = 2), wrap64 (ops + 1), if kind = 0 then 0 else if kind = 1 then 53 else 52)
  else (l, true, off, ops, 1)
/-- Few blocks of few pages. -/
def sm (l : List Blk) : Bool := decide (l.length ≤ 1000000) && l.all fun x => decide (x.f0.length ≤ 1000000)
theorem sm_iff {l : List Blk} : sm l = true ↔ l.length ≤ 1000000 ∧ ∀ x ∈ l, x.f0.length ≤ 1000000 := by
  unfold sm
  simp [List.all_eq_true]
theorem mayP_iff {l : List Blk} {b p kind : Int} : mayP l b p kind = true ↔ mayB l b kind = true ∧ 0 ≤ p ∧ p < (rdB l b).f0.length ∧ (rdB l b).f1 = p := by
  unfold mayP
  simp
theorem rdB_at {l : List Blk} {b : Int} (h0 : 0 ≤ b) (h1 : b < l.length) : l[b.toNat]? = some (rdB l b) := by
  show _ = some (l.getD b.toNat zB)
  rw [List.getD_eq_getElem?_getD, List.getElem?_eq_getElem (by omega)]
  rfl
/-- What is said of a chip that is handed back: its blocks can be read. -/
def Out (P : Nat → Prop) (w w' : World) (e : Ending) (r : List Blk × Bool × Bool × Int × Int) : Prop :=
  ∃ (A : Option Addr) (c : Nat), e = .returned (.tuple #[.agg #[.slice A r.1.length c, .bool r.2.1, .bool r.2.2.1, .int .i64 r.2.2.2.1], .int .i64 r.2.2.2.2]) ∧ r.1.length ≤ c ∧ Kd.F kB w' (fun k => P k ∨ w.heap.size ≤ k) A r.1.length r.1 ∧ Below w.heap.size w w'
theorem Held.out {P : Nat → Prop} {w W : World} {g g2 : Nat} {l : List Blk} {b : Nat} {A2 : Option Addr} {c2 : Nat} {ps : List Pg} {nx er : Int} {bad : Bool} {ok : Nat → Prop} (h : Held W ok g g2 l b A2 c2 ps nx er bad) (hg : w.heap.size ≤ g) (hg2 : w.heap.size ≤ g2) (hok : ∀ k, ok k → P k ∨ w.heap.size ≤ k) :
    Kd.F kB W (fun k => P k ∨ w.heap.size ≤ k) (some ⟨g, 0, none⟩) (l.set b ⟨ps, nx, er, bad⟩).length (l.set b ⟨ps, nx, er, bad⟩) :=
  Kd.F_mono h.F (fun k hk => by
    rcases hk with hk | hk | hk
    · exact hok k hk
    · exact .inr (by omega)
    · exact .inr (by omega))
theorem blk3 {W : World} {g t : Nat} {a b c : Value} (h : W.heap[g]? = some (.cells #[a, b, c] t (0, 0))) :
    W.cell? ⟨g, 0, none⟩ = some a ∧ W.cell? ⟨g, 1, none⟩ = some b ∧ W.cell? ⟨g, 2, none⟩ = some c ∧ W.frozen? ⟨g, 0, none⟩ = false ∧ W.frozen? ⟨g, 1, none⟩ = false ∧ W.frozen? ⟨g, 2, none⟩ = false :=
  ⟨(blk_cell h 0).trans rfl, (blk_cell h 1).trans rfl, (blk_cell h 2).trans rfl, blk_frozen h 0, blk_frozen h 1, blk_frozen h 2⟩
/-- The four rows that Program (and Erase) hold: the chip, the page, the fate, the answer. -/
structure Four (W : World) (B : Nat) (v : Value) (br off : Bool) (ops : Int) (pw : Bool) (pd pt : ByteArray) (kind : Int) (fd ft : ByteArray) (n : Int) (c0 c1 c2 c3 : Value) : Prop where
  chip : W.heap[B]? = some (.cells #[v, .bool br, .bool off, .int .i64 ops] 32 (0, 0))
  page : W.heap[B + 1]? = some (.cells #[.bool pw, .string pd, .string pt] 54 (0, 0))
  fate : W.heap[B + 1 + 1]? = some (.cells #[.int .i64 kind, .string fd, .string ft, .int .i64 n] 57 (0, 0))
  ret : W.heap[B + 1 + 1 + 1]? = some (.cells #[c0, c1, c2, c3] 32 (0, 0))
theorem Four.below {W W1 : World} {B : Nat} {v : Value} {br off : Bool} {ops : Int} {pw : Bool} {pd pt : ByteArray} {kind : Int} {fd ft : ByteArray} {n : Int} {c0 c1 c2 c3 : Value} (h : Four W B v br off ops pw pd pt kind fd ft n c0 c1 c2 c3) (hb : Below W.heap.size W W1) : Four W1 B v br off ops pw pd pt kind fd ft n c0 c1 c2 c3 :=
  ⟨(hb.block _ (blk_lt h.chip)).trans h.chip, (hb.block _ (blk_lt h.page)).trans h.page, (hb.block _ (blk_lt h.fate)).trans h.fate, (hb.block _ (blk_lt h.ret)).trans h.ret⟩
theorem Four.put {W : World} {B : Nat} {v : Value} {br off : Bool} {ops : Int} {pw : Bool} {pd pt : ByteArray} {kind : Int} {fd ft : ByteArray} {n : Int} {c0 c1 c2 c3 : Value} (h : Four W B v br off ops pw pd pt kind fd ft n c0 c1 c2 c3) (v' : Value) (br' off' : Bool) (ops' : Int) :
    Four ((((W.setCell ⟨B, 0, none⟩ v').setCell ⟨B, 1, none⟩ (.bool br')).setCell ⟨B, 2, none⟩ (.bool off')).setCell ⟨B, 3, none⟩ (.int .i64 ops')) B v' br' off' ops' pw pd pt kind fd ft n c0 c1 c2 c3 :=
  ⟨put4 h.chip _ _ _ _, (far4 _ _ _ _ _ _ (by omega)).trans h.page, (far4 _ _ _ _ _ _ (by omega)).trans h.fate, (far4 _ _ _ _ _ _ (by omega)).trans h.ret⟩
theorem Four.putR {W : World} {B : Nat} {v : Value} {br off : Bool} {ops : Int} {pw : Bool} {pd pt : ByteArray} {kind : Int} {fd ft : ByteArray} {n : Int} {c0 c1 c2 c3 : Value} (h : Four W B v br off ops pw pd pt kind fd ft n c0 c1 c2 c3) (d0 d1 d2 d3 : Value) :
    Four ((((W.setCell ⟨B + 1 + 1 + 1, 0, none⟩ d0).setCell ⟨B + 1 + 1 + 1, 1, none⟩ d1).setCell ⟨B + 1 + 1 + 1, 2, none⟩ d2).setCell ⟨B + 1 + 1 + 1, 3, none⟩ d3) B v br off ops pw pd pt kind fd ft n d0 d1 d2 d3 :=
  ⟨(far4 _ _ _ _ _ _ (by omega)).trans h.chip, (far4 _ _ _ _ _ _ (by omega)).trans h.page, (far4 _ _ _ _ _ _ (by omega)).trans h.fate, put4 h.ret _ _ _ _⟩
theorem Four.brk {W : World} {B : Nat} {v : Value} {br off : Bool} {ops : Int} {pw : Bool} {pd pt : ByteArray} {kind : Int} {fd ft : ByteArray} {n : Int} {c0 c1 c2 c3 : Value} (h : Four W B v br off ops pw pd pt kind fd ft n c0 c1 c2 c3) (x : Bool) :
    Four (W.setCell ⟨B, 1, none⟩ (.bool x)) B v x off ops pw pd pt kind fd ft n c0 c1 c2 c3 :=
  ⟨blk_put h.chip 1 (.bool x) rfl, (Below.heap_setCell _ _ _ _ (by simp)).trans h.page, (Below.heap_setCell _ _ _ _ (show B + 1 + 1 ≠ B by omega)).trans h.fate, (Below.heap_setCell _ _ _ _ (show B + 1 + 1 + 1 ≠ B by omega)).trans h.ret⟩
theorem Four.cut {W : World} {B : Nat} {v : Value} {br off : Bool} {ops : Int} {pw : Bool} {pd pt : ByteArray} {kind : Int} {fd ft : ByteArray} {n : Int} {c0 c1 c2 c3 : Value} (h : Four W B v br off ops pw pd pt kind fd ft n c0 c1 c2 c3) (x : Bool) :
    Four (W.setCell ⟨B, 2, none⟩ (.bool x)) B v br x ops pw pd pt kind fd ft n c0 c1 c2 c3 :=
  ⟨blk_put h.chip 2 (.bool x) rfl, (Below.heap_setCell _ _ _ _ (by simp)).trans h.page, (Below.heap_setCell _ _ _ _ (show B + 1 + 1 ≠ B by omega)).trans h.fate, (Below.heap_setCell _ _ _ _ (show B + 1 + 1 + 1 ≠ B by omega)).trans h.ret⟩
/-- A world in which the chip's row, or another one, has been written. -/
theorem Four.far {W W1 : World} {B : Nat} {v : Value} {br off : Bool} {ops : Int} {pw : Bool} {pd pt : ByteArray} {kind : Int} {fd ft : ByteArray} {n : Int} {c0 c1 c2 c3 : Value} (h : Four W B v br off ops pw pd pt kind fd ft n c0 c1 c2 c3) (hb : ∀ k, B ≤ k → k ≤ B + 1 + 1 + 1 → W1.heap[k]? = W.heap[k]?) : Four W1 B v br off ops pw pd pt kind fd ft n c0 c1 c2 c3 :=
  ⟨(hb _ (by omega) (by omega)).trans h.chip, (hb _ (by omega) (by omega)).trans h.page, (hb _ (by omega) (by omega)).trans h.fate, (hb _ (by omega) (by omega)).trans h.ret⟩
theorem four_start (w : World) (v : Value) (br off : Bool) (ops : Int) (pw : Bool) (pd pt : ByteArray) (kind : Int) (fd ft : ByteArray) (n : Int) : ∃ W0 : World,
    (((w.alloc (.cells #[v, .bool br, .bool off, .int .i64 ops] 32)).alloc (.cells #[.bool pw, .string pd, .string pt] 54)).alloc (.cells #[.int .i64 kind, .string fd, .string ft, .int .i64 n] 57)).alloc (.cells #[.slice none 0 0, .bool false, .bool false, .int .i64 0] 32) = W0 ∧
    Four W0 w.heap.size v br off ops pw pd pt kind fd ft n (.slice none 0 0) (.bool false) (.bool false) (.int .i64 0) ∧ Below w.heap.size w W0 ∧ W0.heap.size = w.heap.size + 4 := by
  refine ⟨_, rfl, ⟨?_, ?_, ?_, ?_⟩, (((((Below.refl _ w).alloc (Nat.le_refl _) _).alloc (by simp) _).alloc (by simp; omega) _).alloc (by simp; omega) _), by simp⟩
  · exact blk_alloc (blk_alloc (blk_alloc (alloc_at _ _) _) _) _
  · exact blk_alloc (blk_alloc (by have := alloc_at (w.alloc (.cells #[v, .bool br, .bool off, .int .i64 ops] 32)) (.cells #[.bool pw, .string pd, .string pt] 54); simpa using this) _) _
  · exact blk_alloc (by have := alloc_at ((w.alloc (.cells #[v, .bool br, .bool off, .int .i64 ops] 32)).alloc (.cells #[.bool pw, .string pd, .string pt] 54)) (.cells #[.int .i64 kind, .string fd, .string ft, .int .i64 n] 57); simpa using this) _
  · have := alloc_at (((w.alloc (.cells #[v, .bool br, .bool off, .int .i64 ops] 32)).alloc (.cells #[.bool pw, .string pd, .string pt] 54)).alloc (.cells #[.int .i64 kind, .string fd, .string ft, .int .i64 n] 57)) (.cells #[.slice none 0 0, .bool false, .bool false, .int .i64 0] 32)
    simpa using this

end Go.Proofs.Ytfolonajajideaa.X
