/- Read, on both sides; what any right chip answers. -/
import Derived.Test.YtfolonajajideaaChipAll
namespace Go.Proofs.Ytfolonajajideaa.X
open Go.RowKit Go.Proofs.Ytfolonajajideaa.PAll Go.Proofs.YtfolonajajideaaW.PrintWords Go.Proofs.YtfolonajajideaaW.PrintLast Go.Proofs.YtfolonajajideaaW.PrintMore
set_option linter.unusedVariables false
set_option linter.unusedSimpArgs false
theorem put3 {W : World} {B T : Nat} {a0 b0 c0 : Value} (h : W.heap[B]? = some (.cells #[a0, b0, c0] T (0, 0))) (a b c : Value) :
    (((W.setCell ⟨B, 0, none⟩ a).setCell ⟨B, 1, none⟩ b).setCell ⟨B, 2, none⟩ c).heap[B]? = some (.cells #[a, b, c] T (0, 0)) :=
  blk_put (cs := #[a, b, c0]) (blk_put (cs := #[a, b0, c0]) (blk_put h 0 a rfl) 1 b rfl) 2 c rfl
theorem below3 {w W : World} {B : Nat} (h : Below w.heap.size w W) (hB : w.heap.size ≤ B) (a b c : Value) : Below w.heap.size w (((W.setCell ⟨B, 0, none⟩ a).setCell ⟨B, 1, none⟩ b).setCell ⟨B, 2, none⟩ c) :=
  below_set (below_set (below_set h hB) hB) hB
/-- A page as it is read, and the error. -/
def readV (l : List Blk) (off : Bool) (b p : Int) : Pg × Int := if off = true then (zP, 52) else if thereB l b p = true then (rd_T54 (rdB l b).f0 p, 0) else (zP, 1)
theorem there_iff {l : List Blk} {b p : Int} : thereB l b p = true ↔ 0 ≤ b ∧ b < l.length ∧ 0 ≤ p ∧ p < (rdB l b).f0.length := by
  unfold thereB; simp
theorem there_at {l : List Blk} {b p : Int} (h : thereB l b p = true) : (rdB l b).f0[p.toNat]? = some (rd_T54 (rdB l b).f0 p) := by
  obtain ⟨_, _, h2, h3⟩ := there_iff.1 h
  show _ = some ((rdB l b).f0.getD p.toNat zP)
  rw [List.getD_eq_getElem?_getD, List.getElem?_eq_getElem (by omega)]
  rfl
theorem Out.op {P : Nat → Prop} {w w' : World} {e : Ending} {r1 : List Blk} {r2 r3 : Bool} {r4 r5 : Int} (h : Out P w w' e (r1, r2, r3, r4, r5)) : ∃ (A : Option Addr) (c : Nat), e = .returned (.tuple #[.agg #[.slice A r1.length c, .bool r2, .bool r3, .int .i64 r4], .int .i64 r5]) ∧ r1.length ≤ c ∧
    Kd.F kB w' (fun k => P k ∨ w.heap.size ≤ k) A r1.length r1 ∧ Below w.heap.size w w' := h
theorem lit1 {W : World} {g t : Nat} {a : Int} (hk : W.heap[g]? = some (.cells #[.int .i64 a] t (0, 0))) : ReadsOf (Value.int .i64) (0 : Int) W (some ⟨g, 0, none⟩) [a].length [a] := by
  refine ⟨rfl, by simp, fun _ => ⟨_, rfl, fun j hj => ?_⟩⟩
  have hj2 : j < 1 := hj
  obtain rfl : j = 0 := by omega
  exact (blk_cell hk 0).trans rfl
/-- The chips that awake makes. -/
def awC : List Blk := rowL 2 (List.replicate 4 zP) [1]
def awD : List Blk := (progV awC false false 0 0 0 (⟨#[120]⟩ : ByteArray) (⟨#[121]⟩ : ByteArray) 0 (⟨#[]⟩ : ByteArray) (⟨#[]⟩ : ByteArray)).1
def awX : List Blk := (eraV awD false false 1 0 0 0).1
theorem aw_n1 : newV 2 4 [1] = (awC, false, false, 0, 0) := by kernel_rfl
theorem aw_p1 : progV awC false false 0 0 0 (⟨#[120]⟩ : ByteArray) (⟨#[121]⟩ : ByteArray) 0 (⟨#[]⟩ : ByteArray) (⟨#[]⟩ : ByteArray) = (awD, false, false, 1, 0) := by kernel_rfl
theorem aw_r1 : readV awD false 0 0 = (⟨true, (⟨#[120]⟩ : ByteArray), (⟨#[121]⟩ : ByteArray)⟩, 0) := by kernel_rfl
theorem aw_p2 : progV awC false false 0 1 0 (⟨#[]⟩ : ByteArray) (⟨#[]⟩ : ByteArray) 0 (⟨#[]⟩ : ByteArray) (⟨#[]⟩ : ByteArray) = (awC, true, false, 0, 1) := by kernel_rfl
theorem aw_e1 : eraV awD false false 1 0 0 0 = (awX, false, false, 2, 0) := by kernel_rfl
theorem aw_n2 : newV 0 1 [] = ([], false, false, 0, 1) := by kernel_rfl
theorem aw_lc : awC.length = 2 := by kernel_rfl
theorem aw_ld : awD.length = 2 := by kernel_rfl
theorem aw_lx : awX.length = 2 := by kernel_rfl
theorem aw_x0 : (rd_T62 awX 0).f2 = 1 := by kernel_rfl
theorem aw_sc : sm awC = true := by kernel_rfl
theorem aw_sd : sm awD = true := by kernel_rfl
end Go.Proofs.Ytfolonajajideaa.X
