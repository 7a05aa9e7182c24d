/- A part of a command, in plain words. -/
import Derived.Test.YtcahhknehmhlaaaModelWalk
import Derived.Test.YtcahhknehmhlaaaBase
import Derived.Lib.SliceRun
import Derived.Lib.LazyBuf
import Derived.Laws.IdiomCopy
namespace Go.Proofs.Ytcahhknehmhlaaa.X
open Go.RowKit Go.Proofs.YtcahhknehmhlaaaW.PrintWords Go.Proofs.YtcahhknehmhlaaaW.PrintLast

/-- Of how many sectors a part is. -/
def upTo (n k : Int) : Int := if k < (if n < 0 then 0 else n) then k else (if n < 0 then 0 else n)
/-- The sectors behind the first n of a command. -/
def partV (l : List ByteArray) (kind first count : Int) (data : List ByteArray) (n : Int) : List ByteArray :=
  if checkV (l.length : Int) kind first count data ≠ 0 then l
  else if kind = 2 then setMany l first.toNat (data.take (upTo n (data.length : Int)).toNat)
  else if kind = 3 then setMany l first.toNat (List.replicate (upTo n count).toNat ByteArray.empty)
  else l
theorem part_no {l : List ByteArray} {kind first count : Int} {data : List ByteArray} (h : checkV (l.length : Int) kind first count data ≠ 0) {a2 : Int} : partV l kind first count data a2 = l := by
  unfold partV; rw [if_pos h]
theorem part_4 (l : List ByteArray) (first count : Int) (data : List ByteArray) (n : Int) : partV l 4 first count data n = l := by
  unfold partV; rw [if_neg (by simp [checkV]), if_neg (by omega), if_neg (by omega)]
/-- What a command that may be holds. -/
theorem range_facts {n first many : Int} (h0 : 0 ≤ n) (hn : n ≤ 9223372036854775807) (h : rangeV n first many = 0) : 1 ≤ many ∧ 0 ≤ first ∧ first + many ≤ n := by
  unfold rangeV at h
  by_cases h1 : many < 1
  · rw [if_pos h1] at h; omega
  rw [if_neg h1] at h
  by_cases h2 : first < 0
  · rw [if_pos h2] at h; omega
  rw [if_neg h2] at h
  by_cases h3 : first > n
  · rw [if_pos h3] at h; omega
  rw [if_neg h3, wrap64_in (by omega) (by omega)] at h
  by_cases h4 : many > n - first
  · rw [if_pos h4] at h; omega
  omega
theorem cells4 (w : World) (a b c d : Value) (t : TypeId) : ∀ W, Below (w.alloc (.cells #[a, b, c, d] t)).heap.size (w.alloc (.cells #[a, b, c, d] t)) W →
    W.cell? ⟨w.heap.size, 0, none⟩ = some a ∧ W.cell? ⟨w.heap.size, 1, none⟩ = some b ∧ W.cell? ⟨w.heap.size, 2, none⟩ = some c ∧ W.cell? ⟨w.heap.size, 3, none⟩ = some d ∧
    W.frozen? ⟨w.heap.size, 0, none⟩ = false ∧ W.frozen? ⟨w.heap.size, 1, none⟩ = false ∧ W.frozen? ⟨w.heap.size, 2, none⟩ = false ∧ W.frozen? ⟨w.heap.size, 3, none⟩ = false := fun W h => by
  have hk : W.heap[w.heap.size]? = some (.cells #[a, b, c, d] t (0, 0)) := (h.block _ (by simp)).trans (alloc_at _ _)
  exact ⟨(blk_cell hk 0).trans rfl, (blk_cell hk 1).trans rfl, (blk_cell hk 2).trans rfl, (blk_cell hk 3).trans rfl, blk_frozen hk 0, blk_frozen hk 1, blk_frozen hk 2, blk_frozen hk 3⟩

theorem part_facts {n kind first count : Int} {data : List ByteArray} (h0 : 0 ≤ n) (hn : n ≤ 9223372036854775807) (h4 : kind ≠ 4) (h : checkV n kind first count data = 0) :
    ∃ mk : Int, manyV kind count data = (mk, true) ∧ 1 ≤ mk ∧ 0 ≤ first ∧ first + mk ≤ n ∧ (kind = 2 ∧ mk = (data.length : Int) ∨ kind = 1 ∧ mk = count ∨ kind = 3 ∧ mk = count) := by
  unfold checkV at h
  rw [if_neg h4] at h
  by_cases h2 : kind = 2
  · subst h2
    rw [if_pos rfl] at h
    cases hb : data.any big with
    | true => rw [if_pos hb] at h; omega
    | false =>
      rw [if_neg (by rw [hb]; simp)] at h
      obtain ⟨a, b, c⟩ := range_facts h0 hn h
      exact ⟨(data.length : Int), by rw [many_2, hb]; rfl, a, b, c, .inl ⟨rfl, rfl⟩⟩
  · rw [if_neg h2] at h
    by_cases h1 : kind = 1 ∨ kind = 3
    · rw [if_pos h1] at h
      obtain ⟨a, b, c⟩ := range_facts h0 hn h
      exact ⟨count, many_13 h1, a, b, c, by rcases h1 with h1 | h1 <;> simp [h1]⟩
    · rw [if_neg h1] at h; omega
section
variable {e base n cap g : Nat} {W : World} {ok : Nat → Prop} {v : Value} {xs : List ByteArray}
theorem R_some (h : Kd.R Kd.string e W base ok v xs) (hp : 0 < xs.length) : ∃ g cap, v = .slice (some ⟨g, 0, none⟩) xs.length cap ∧ base ≤ g ∧ xs.length ≤ cap := by
  have ho := Kd.own_of_R (enc := Value.string) (h1 := fun _ => rfl) h
  rcases ho.2 with ⟨_, hz⟩ | ⟨g, cap, cur, rfl, hg, _, hc, _⟩
  · omega
  · exact ⟨g, cap, rfl, hg, hc⟩
theorem R_cells (h : Kd.R Kd.string e W base ok (.slice (some ⟨g, 0, none⟩) n cap) xs) : n = xs.length ∧ ∀ j, j < n → (W.cell? ⟨g, j, none⟩).isSome = true ∧ W.frozen? ⟨g, j, none⟩ = false := by
  have ho := Kd.own_of_R (enc := Value.string) (h1 := fun _ => rfl) h
  rcases ho.2 with ⟨h1, hz⟩ | ⟨g', cap', cur, h1, hg, hh, hc, _, hs, _⟩
  · cases h1
  · cases h1
    refine ⟨rfl, fun j hj => ⟨?_, blk_frozen hh j⟩⟩
    rw [blk_cell hh j, Array.getElem?_eq_getElem (by omega)]
    rfl
end
theorem cut1 (g cap n : Nat) (first : Int) (h0 : 0 ≤ first) (h1 : first < n) (h2 : n ≤ cap) (hi : (Try.prog.info? 9).map (fun i => (i.zero, i.size, i.bytes)) = some (some (.string ⟨#[]⟩), 1, 16)) : ∀ W : World,
    (Instr.slice 22 (.slice (some ⟨g, 0, none⟩) n cap) (some (.int .i64 first)) none none).run Try.prog W = .ok (.slice (some ⟨g, first.toNat, none⟩) (n - first.toNat) (cap - first.toNat)) W := by
  obtain ⟨i0, hi0, _, hsz, _⟩ := info_parts hi
  intro W
  rw [cut_from (P := Try.prog) 22 9 .i64 Try.underlying22 hi0 1 hsz (some ⟨g, 0, none⟩) n cap first h0 (by omega) W, if_neg (by omega)]
  simp [Addr.add]
  omega
theorem cut2 (g o cap n : Nat) (m : Int) (h0 : 0 ≤ m) (h1 : m ≤ n) (h2 : n ≤ cap) (hi : (Try.prog.info? 9).map (fun i => (i.zero, i.size, i.bytes)) = some (some (.string ⟨#[]⟩), 1, 16)) : ∀ W : World,
    (Instr.slice 22 (.slice (some ⟨g, o, none⟩) n cap) none (some (.int .i64 m)) none).run Try.prog W = .ok (.slice (some ⟨g, o, none⟩) m.toNat cap) W := by
  obtain ⟨i0, hi0, _, hsz, _⟩ := info_parts hi
  exact cut_to (P := Try.prog) 22 9 .i64 Try.underlying22 hi0 (some ⟨g, o, none⟩) n cap m h0 h1 h2
theorem part_2 {l : List ByteArray} {first count : Int} {data : List ByteArray} {n : Int} (h : checkV (l.length : Int) 2 first count data = 0) : partV l 2 first count data n = setMany l first.toNat (data.take (upTo n (data.length : Int)).toNat) := by
  unfold partV; rw [if_neg (by rw [h]; simp), if_pos rfl]
theorem part_3 {l : List ByteArray} {first count : Int} {data : List ByteArray} {n : Int} (h : checkV (l.length : Int) 3 first count data = 0) : partV l 3 first count data n = setMany l first.toNat (List.replicate (upTo n count).toNat ByteArray.empty) := by
  unfold partV; rw [if_neg (by rw [h]; simp), if_neg (by omega), if_pos rfl]
theorem part_1 {l : List ByteArray} {first count : Int} {data : List ByteArray} {n : Int} : partV l 1 first count data n = l := by
  unfold partV; rw [if_neg (show ¬ (1 : Int) = 2 by omega), if_neg (show ¬ (1 : Int) = 3 by omega), ite_self]
theorem upTo_facts {n k m : Int} (h : upTo n k = m) (hk : 1 ≤ k) : 0 ≤ m ∧ m ≤ k := by
  unfold upTo at h
  split at h <;> split at h <;> omega
theorem copy_run {e base cap g n o c1 cc : Nat} {W : World} {ok : Nat → Prop} {xs data : List ByteArray} {A : Option Addr} (ty : TypeId) (m : Nat) (hR : Kd.R Kd.string e W base ok (.slice (some ⟨g, 0, none⟩) n cap) xs)
    (hC : ReadsOf Value.string ByteArray.empty W A data.length data) (hp : 0 < data.length) (hm : o + m ≤ n) (hmd : m ≤ data.length) (hi : (Try.prog.info? 9).map (fun i => (i.zero, i.size, i.bytes)) = some (some (.string ⟨#[]⟩), 1, 16)) :
    (Builtin.copy_ #[22, 22] ty #[.slice (some ⟨g, o, none⟩) m c1, .slice A data.length cc]).run Try.prog W = .ok (goInt m) (W.setCells g o ((data.take m).map Value.string)) := by
  obtain ⟨ad, rfl, hcs⟩ := hC.2.2 hp
  have hl : ((data.take m).map Value.string).length = m := by rw [List.length_map, List.length_take]; omega
  have hs : (Try.prog.info? 9).map (·.size) = some 1 := by
    obtain ⟨i0, hi0, _, hsz, _⟩ := info_parts hi
    rw [hi0]; simp [hsz]
  have := run_copy_cells (P := Try.prog) W 22 22 ty 9 g o m c1 ad data.length cc ((data.take m).map Value.string) Try.underlying22 hs (by rw [hl]; exact (Nat.min_eq_right hmd).symm)
    (fun j v hv => by
      have hj : j < m := by
        have := (List.getElem?_eq_some_iff.mp hv).1
        omega
      rw [hcs j (by omega)]
      rw [List.getElem?_map, List.getElem?_take_of_lt hj, List.getElem?_eq_getElem (by omega)] at hv
      rw [← hv, List.getD_eq_getElem?_getD, List.getElem?_eq_getElem (by omega)]
      rfl)
    (fun j hj => ((R_cells hR).2 (o + j) (by omega)).1) (fun j hj => ((R_cells hR).2 (o + j) (by omega)).2)
    (fun v hv => by obtain ⟨x, _, rfl⟩ := List.mem_map.mp hv; rfl)
  rw [hl] at this
  exact this
theorem clear_run {e base cap g n o c1 : Nat} {W : World} {ok : Nat → Prop} {xs : List ByteArray} (ty : TypeId) (m : Nat) (hR : Kd.R Kd.string e W base ok (.slice (some ⟨g, 0, none⟩) n cap) xs) (hm : o + m ≤ n) :
    (Builtin.clear_ #[22] ty #[.slice (some ⟨g, o, none⟩) m c1]).run Try.prog W = .ok (.tuple #[]) (W.setCells g o ((List.replicate m ByteArray.empty).map Value.string)) := by
  rcases Nat.eq_zero_or_pos m with rfl | hp
  · simp [Builtin.clear_, run_underlying Try.underlying22, World.setCells]
  · rw [List.map_replicate]
    exact Go.Lib.run_clear_slice (P := Try.prog) W 22 9 ty (.string ⟨#[]⟩) Try.underlying22 (fun _ => by kernel_rfl) (by kernel_rfl) rfl g o m c1 hp (fun j hj => ((R_cells hR).2 (o + j) (by omega)).1) (fun j hj => ((R_cells hR).2 (o + j) (by omega)).2)
end Go.Proofs.Ytcahhknehmhlaaa.X
