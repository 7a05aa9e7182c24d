/- The walk of the library's Compact: a list without its repetitions. -/
import Derived.Test.YtfolonajajideaaWZ
import Derived.Test.YtfolonajajideaaProg
import Derived.WalkKit
import Derived.BigQuiet
import Derived.Lib.Hide
import Derived.Laws.IdiomCopy
import Derived.Lib.SliceRun
import Derived.Lib.LazyBuf
namespace Go.Proofs.Ytfolonajajideaa.X
open Go.RowKit Go.Proofs.YtfolonajajideaaW.PrintWords Go.Proofs.YtfolonajajideaaW.PrintLast
section
variable {e base n cap g : Nat} {W : World} {ok : Nat → Prop} {v : Value} {xs : List Int}
theorem R_some (h : Kd.R (Kd.int .i64) e W base ok v xs) (hp : 0 < xs.length) : ∃ g cap, v = .slice (some ⟨g, 0, none⟩) xs.length cap ∧ base ≤ g ∧ xs.length ≤ cap := by
  have ho := Kd.own_of_R (enc := (Value.int .i64)) (h1 := fun _ => rfl) h
  rcases ho.2 with ⟨_, hz⟩ | ⟨g, cap, cur, rfl, hg, _, hc, _⟩
  · omega
  · exact ⟨g, cap, rfl, hg, hc⟩
theorem R_cells (h : Kd.R (Kd.int .i64) e W base ok (.slice (some ⟨g, 0, none⟩) n cap) xs) : n = xs.length ∧ ∀ j, j < n → (W.cell? ⟨g, j, none⟩).isSome = true ∧ W.frozen? ⟨g, j, none⟩ = false := by
  have ho := Kd.own_of_R (enc := (Value.int .i64)) (h1 := fun _ => rfl) h
  rcases ho.2 with ⟨h1, hz⟩ | ⟨g', cap', cur, h1, hg, hh, hc, _, hs, _⟩
  · cases h1
  · cases h1
    refine ⟨rfl, fun j hj => ⟨?_, blk_frozen hh j⟩⟩
    rw [blk_cell hh j, Array.getElem?_eq_getElem (by omega)]
    rfl
end
theorem cut1 (g cap n : Nat) (first : Int) (h0 : 0 ≤ first) (h1 : first < n) (h2 : n ≤ cap) (hi : (Try.prog.info? 3).map (fun i => (i.zero, i.size, i.bytes)) = some (some (.int .i64 0), 1, 8)) : ∀ W : World,
    (Instr.slice 22 (.slice (some ⟨g, 0, none⟩) n cap) (some (.int .i64 first)) none none).run Try.prog W = .ok (.slice (some ⟨g, first.toNat, none⟩) (n - first.toNat) (cap - first.toNat)) W := by
  obtain ⟨i0, hi0, _, hsz, _⟩ := info_parts hi
  intro W
  rw [cut_from (P := Try.prog) 22 3 .i64 Try.underlying22 hi0 1 hsz (some ⟨g, 0, none⟩) n cap first h0 (by omega) W, if_neg (by omega)]
  simp [Addr.add]
  omega
theorem cut2 (g o cap n : Nat) (m : Int) (h0 : 0 ≤ m) (h1 : m ≤ n) (h2 : n ≤ cap) (hi : (Try.prog.info? 3).map (fun i => (i.zero, i.size, i.bytes)) = some (some (.int .i64 0), 1, 8)) : ∀ W : World,
    (Instr.slice 22 (.slice (some ⟨g, o, none⟩) n cap) none (some (.int .i64 m)) none).run Try.prog W = .ok (.slice (some ⟨g, o, none⟩) m.toNat cap) W := by
  obtain ⟨i0, hi0, _, hsz, _⟩ := info_parts hi
  exact cut_to (P := Try.prog) 22 3 .i64 Try.underlying22 hi0 (some ⟨g, o, none⟩) n cap m h0 h1 h2
theorem clear_run {e base cap g n o c1 : Nat} {W : World} {ok : Nat → Prop} {xs : List Int} (ty : TypeId) (m : Nat) (hR : Kd.R (Kd.int .i64) e W base ok (.slice (some ⟨g, 0, none⟩) n cap) xs) (hm : o + m ≤ n) :
    (Builtin.clear_ #[22] ty #[.slice (some ⟨g, o, none⟩) m c1]).run Try.prog W = .ok (.tuple #[]) (W.setCells g o ((List.replicate m (0 : Int)).map (Value.int .i64))) := by
  rcases Nat.eq_zero_or_pos m with rfl | hp
  · simp [Builtin.clear_, run_underlying Try.underlying22, World.setCells]
  · rw [List.map_replicate]
    exact Go.Lib.run_clear_slice (P := Try.prog) W 22 3 ty (.int .i64 0) Try.underlying22 (fun _ => by kernel_rfl) (by kernel_rfl) rfl g o m c1 hp (fun j hj => ((R_cells hR).2 (o + j) (by omega)).1) (fun j hj => ((R_cells hR).2 (o + j) (by omega)).2)

/-- No number stands behind its like, up to place k. -/
def noRep (l : List Int) : Nat → Bool
  | 0 => true
  | k + 1 => noRep l k && (k == 0 || l.getD k 0 != l.getD (k - 1) 0)
theorem noRep_step (l : List Int) (k : Nat) (hk : 1 ≤ k) : noRep l (k + 1) = (noRep l k && (l.getD k 0 != l.getD (k - 1) 0)) := by
  rw [noRep]
  have : (k == 0) = false := beq_eq_false_iff_ne.mpr (by omega)
  rw [this, Bool.false_or]
theorem noRep_le (l : List Int) {a b : Nat} (h : a ≤ b) (hf : noRep l a = false) : noRep l b = false := by
  induction b with
  | zero => have : a = 0 := by omega
            rw [this] at hf; exact hf
  | succ b ih =>
    by_cases h2 : a = b + 1
    · rw [h2] at hf; exact hf
    · rw [noRep, ih (by omega), Bool.false_and]
theorem noRep_small (l : List Int) (n : Nat) (h : n < 2) : noRep l n = true := by
  match n, h with
  | 0, _ => rfl
  | 1, _ => rfl
theorem info_int : (Try.prog.info? 3).map (fun i => (i.zero, i.size, i.bytes)) = some (some (.int .i64 0), 1, 8) := by kernel_rfl
end Go.Proofs.Ytfolonajajideaa.X
