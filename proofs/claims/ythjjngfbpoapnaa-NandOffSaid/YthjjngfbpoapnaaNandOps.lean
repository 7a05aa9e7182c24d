/- What the laws of the chip lean on: programs and erases keep few pages; the calls as equations. -/
import Derived.Test.YthjjngfbpoapnaaNandPure
import Derived.Test.YthjjngfbpoapnaaNandStep
import Derived.Test.YthjjngfbpoapnaaPAllx6
import Derived.Test.YthjjngfbpoapnaaPAllx7
import Derived.Test.YthjjngfbpoapnaaPAllx8
import Derived.Test.YthjjngfbpoapnaaPAllx9
namespace Go.Proofs.Ythjjngfbpoapnaa.X
open Go.RowKit Go.Proofs.Ythjjngfbpoapnaa.PAll Go.Proofs.YthjjngfbpoapnaaW.PrintWords Go.Proofs.YthjjngfbpoapnaaW.PrintLast Go.Proofs.YthjjngfbpoapnaaW.PrintMore
set_option linter.unusedVariables false
set_option linter.unusedSimpArgs false
theorem all_set {P : Blk → Prop} {l : List Blk} (h : ∀ x ∈ l, P x) {y : Blk} (hy : P y) (i : Nat) : ∀ x ∈ l.set i y, P x := by
  intro x hx
  rcases List.mem_or_eq_of_mem_set hx with hx | rfl
  · exact h x hx
  · exact hy
theorem rdB_all {P : Blk → Prop} {l : List Blk} (h : ∀ x ∈ l, P x) (hz : P zB) (b : Int) : P (rdB l b) := by
  show P (l.getD b.toNat zB)
  rw [List.getD_eq_getElem?_getD]
  cases hb : l[b.toNat]? with
  | none => exact hz
  | some x => exact h x (List.mem_of_getElem? hb)
theorem sm_set {l : List Blk} (h : sm l = true) {y : Blk} (hy : y.f0.length ≤ 1000000) (i : Nat) : sm (l.set i y) = true := by
  obtain ⟨h0, h1⟩ := sm_iff.1 h
  exact sm_iff.2 ⟨by rw [List.length_set]; exact h0, all_set (P := fun x => x.f0.length ≤ 1000000) h1 hy i⟩
theorem sm_rd {l : List Blk} (h : sm l = true) (b : Int) : (rdB l b).f0.length ≤ 1000000 :=
  rdB_all (P := fun x => x.f0.length ≤ 1000000) (sm_iff.1 h).2 (show (0 : Nat) ≤ 1000000 by omega) b
theorem progB_len (x : Blk) (p kind : Int) (d t fd ft : ByteArray) : (progB x p kind d t fd ft).f0.length = x.f0.length := by
  unfold progB
  exact List.length_set
theorem upTo_le (n k : Int) (hk : 0 ≤ k) : 0 ≤ upTo n k ∧ upTo n k ≤ k := by
  unfold upTo
  split <;> split <;> omega
theorem eraN_le (x : Blk) (kind n : Int) : 0 ≤ eraN x kind n ∧ eraN x kind n ≤ x.f0.length := by
  unfold eraN
  split
  · exact upTo_le n x.f0.length (by omega)
  · omega
theorem eraB_len (x : Blk) (kind n : Int) : (eraB x kind n).f0.length = x.f0.length := by
  have := eraN_le x kind n
  unfold eraB
  simp
  omega
theorem sm_prog {l : List Blk} (h : sm l = true) (br off : Bool) (ops b p : Int) (d t : ByteArray) (kind : Int) (fd ft : ByteArray) : sm (progV l br off ops b p d t kind fd ft).1 = true := by
  unfold progV
  split
  · exact h
  · split
    · exact sm_set h (by rw [progB_len]; exact sm_rd h b) _
    · exact h
theorem sm_era {l : List Blk} (h : sm l = true) (br off : Bool) (ops b kind n : Int) : sm (eraV l br off ops b kind n).1 = true := by
  unfold eraV
  split
  · exact h
  · split
    · split
      · exact sm_set h (y := ⟨(rdB l b).f0, (rdB l b).f1, (rdB l b).f2, true⟩) (sm_rd h b) _
      · exact sm_set h (by rw [eraB_len]; exact sm_rd h b) _
    · exact h
theorem rowL_len (n : Nat) (ps : List Pg) (S : List Int) : (rowL n ps S).length = n := by simp [rowL]
theorem rowL_mem {n : Nat} {ps : List Pg} {S : List Int} {x : Blk} (h : x ∈ rowL n ps S) : x.f0 = ps ∧ x.f1 = 0 := by
  obtain ⟨j, _, rfl⟩ := List.mem_map.1 h
  exact ⟨rfl, rfl⟩
theorem sm_new (blocks pages : Int) (bad : List Int) : sm (newV blocks pages bad).1 = true := by
  unfold newV
  split
  · rfl
  · rename_i h
    refine sm_iff.2 ⟨by rw [rowL_len]; omega, fun x hx => ?_⟩
    rw [(rowL_mem hx).1, List.length_replicate]
    omega
theorem new_good {blocks pages : Int} (h1 : 1 ≤ blocks) (h2 : blocks ≤ 32) (h3 : 1 ≤ pages) (h4 : pages ≤ 16) : newV blocks pages [] = (rowL blocks.toNat (List.replicate pages.toNat zP) [], false, false, 0, 0) := by
  unfold newV
  rw [if_neg]
  simp
  omega
/-! The calls, as equations. -/
theorem read_f {l : List Blk} (h : sm l = true) (br off : Bool) (ops b p : Int) : nand_Read.f l br off ops b p = some ((readV l off b p).1.f0, (readV l off b p).1.f1, (readV l off b p).1.f2, (readV l off b p).2) := if_pos h
theorem prog_f {l : List Blk} (h : sm l = true) (br off : Bool) (ops b p : Int) (pw : Bool) (d t : ByteArray) (kind : Int) (fd ft : ByteArray) (n : Int) : nand_Program.f l br off ops b p pw d t kind fd ft n = some (progV l br off ops b p d t kind fd ft) := if_pos h
theorem era_f {l : List Blk} (h : sm l = true) (br off : Bool) (ops b kind : Int) (fd ft : ByteArray) (n : Int) : nand_Erase.f l br off ops b kind fd ft n = some (eraV l br off ops b kind n) := if_pos h
theorem fate_f (a b c d : Int) (e f : ByteArray) : ∃ (k : Int) (n : Int), clinkerlaw05_Fate.f a b c d e f = some (k, f, e, n) := by
  unfold clinkerlaw05_Fate.f
  split
  · exact ⟨_, _, rfl⟩
  · split
    · exact ⟨_, _, rfl⟩
    · split
      · exact ⟨_, _, rfl⟩
      · exact ⟨_, _, rfl⟩
theorem tmod_byte {a m : Int} (h : 0 ≤ a ∧ a ≤ 255) : wrap64 a = a := wrap64_in (by omega) (by omega)
theorem tmod_in (a : Int) {m : Int} (h : 0 ≤ a) (hm : 0 < m) : 0 ≤ Int.tmod a m ∧ Int.tmod a m < m := ⟨Int.tmod_nonneg m h, Int.tmod_lt_of_pos a hm⟩
end Go.Proofs.Ythjjngfbpoapnaa.X
