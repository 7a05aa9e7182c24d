/- The least and the greatest of whole numbers: the library's slices.Min and slices.Max, walked. -/
import Derived.Test.YtnbhkogjamdfhaaWZ
import Derived.Test.YtnbhkogjamdfhaaProg
import Derived.Test.YtnbhkogjamdfhaaPAllx0
import Derived.WalkKit
namespace Go.Proofs.Ytnbhkogjamdfhaa.X
open Go.RowKit Go.Proofs.Ytnbhkogjamdfhaa.PAll Go.Proofs.YtnbhkogjamdfhaaW.PrintWords Go.Proofs.YtnbhkogjamdfhaaW.PrintLast Go.Proofs.YtnbhkogjamdfhaaW.PrintMore
attribute [local go_sem] max2_int min2_int max_two min_two
set_option linter.unusedVariables false
set_option linter.unusedSimpArgs false
def minF (m x : Int) : Int := if x < m then x else m
/-- The min of these. -/
def minL : List Int → Int
  | [] => 0
  | x :: xs => xs.foldl minF x
theorem min_succ (xs : List Int) (x : Int) (j : Nat) (h : j < xs.length) : (xs.take (j + 1)).foldl minF x = if xs.getD j 0 < (xs.take j).foldl minF x then xs.getD j 0 else (xs.take j).foldl minF x := by
  rw [List.take_succ_eq_append_getElem h, List.foldl_append, List.getD_eq_getElem?_getD, List.getElem?_eq_getElem h]
  rfl
set_option maxHeartbeats 2000000 in
set_option maxRecDepth 100000 in
theorem min_any (A : Option Addr) (c : Nat) (x : Int) (xs : List Int) (w : World) (h0 : ReadsOf (Value.int .i64) (0 : Int) w A (x :: xs).length (x :: xs)) :
    Calls Try.prog 22 #[.slice A (x :: xs).length c] w fun e w' => e = .returned (.int .i64 (minL (x :: xs))) ∧ w = w' := by
  have hn := h0.2.1
  rw [List.length_cons] at hn
  obtain ⟨ad, rfl, hcs⟩ := h0.2.2 (by simp)
  have hc0 : w.cell? ad = some (.int .i64 x) := hcs 0 (by simp)
  have HC := Aside0.mk (fun j (hj : j < xs.length) => (show w.cell? (ad.add (j + 1)) = some (.int .i64 (xs.getD j 0)) from hcs (j + 1) (by simpa using hj)))
  clear hcs h0
  rw [List.length_cons]
  go_enter Try.func22, Try.ntmps22
  go_wp2
  go_loopw [3, 4] (fun m i wr => ∃ j : Nat, j ≤ xs.length ∧ m = .int .i64 ((xs.take j).foldl minF x) ∧ i = .int .i64 ((j + 1 : Nat) : Int) ∧ w = wr)
    (fun _ i _ => xs.length + 1 - (intOf i).toNat)
  case atStart => exact ⟨0, Nat.zero_le _, rfl, rfl, rfl⟩
  case round =>
    obtain ⟨j, hj, rfl, rfl, rfl⟩ := hrel
    by_cases hlt : j < xs.length
    · have hcj : w.cell? ⟨ad.block, ad.off + (j + 1), none⟩ = some (.int .i64 (xs.getD j 0)) := HC.out j hlt
      have HS := Aside0.mk (min_succ xs x j hlt)
      obtain ⟨m, hm⟩ : ∃ m, (xs.take j).foldl minF x = m := ⟨_, rfl⟩
      obtain ⟨y, hy⟩ : ∃ y, xs.getD j 0 = y := ⟨_, rfl⟩
      rw [hm]
      rw [hm, hy] at HS
      rw [hy] at hcj
      clear hm hy
      go_wp2
      go_roundw
      case rel => exact ⟨j + 1, by omega, by rw [HS.out], by go_num, trivial⟩
      case measure => simp [intOf]; omega
    · obtain rfl : j = xs.length := by omega
      rw [List.take_length]
      go_wp2
      go_ret
      exact ⟨rfl, rfl⟩
def maxF (m x : Int) : Int := if m < x then x else m
/-- The max of these. -/
def maxL : List Int → Int
  | [] => 0
  | x :: xs => xs.foldl maxF x
theorem max_succ (xs : List Int) (x : Int) (j : Nat) (h : j < xs.length) : (xs.take (j + 1)).foldl maxF x = if (xs.take j).foldl maxF x < xs.getD j 0 then xs.getD j 0 else (xs.take j).foldl maxF x := by
  rw [List.take_succ_eq_append_getElem h, List.foldl_append, List.getD_eq_getElem?_getD, List.getElem?_eq_getElem h]
  rfl
set_option maxHeartbeats 2000000 in
set_option maxRecDepth 100000 in
theorem max_any (A : Option Addr) (c : Nat) (x : Int) (xs : List Int) (w : World) (h0 : ReadsOf (Value.int .i64) (0 : Int) w A (x :: xs).length (x :: xs)) :
    Calls Try.prog 23 #[.slice A (x :: xs).length c] w fun e w' => e = .returned (.int .i64 (maxL (x :: xs))) ∧ w = w' := by
  have hn := h0.2.1
  rw [List.length_cons] at hn
  obtain ⟨ad, rfl, hcs⟩ := h0.2.2 (by simp)
  have hc0 : w.cell? ad = some (.int .i64 x) := hcs 0 (by simp)
  have HC := Aside0.mk (fun j (hj : j < xs.length) => (show w.cell? (ad.add (j + 1)) = some (.int .i64 (xs.getD j 0)) from hcs (j + 1) (by simpa using hj)))
  clear hcs h0
  rw [List.length_cons]
  go_enter Try.func23, Try.ntmps23
  go_wp2
  go_loopw [3, 4] (fun m i wr => ∃ j : Nat, j ≤ xs.length ∧ m = .int .i64 ((xs.take j).foldl maxF x) ∧ i = .int .i64 ((j + 1 : Nat) : Int) ∧ w = wr)
    (fun _ i _ => xs.length + 1 - (intOf i).toNat)
  case atStart => exact ⟨0, Nat.zero_le _, rfl, rfl, rfl⟩
  case round =>
    obtain ⟨j, hj, rfl, rfl, rfl⟩ := hrel
    by_cases hlt : j < xs.length
    · have hcj : w.cell? ⟨ad.block, ad.off + (j + 1), none⟩ = some (.int .i64 (xs.getD j 0)) := HC.out j hlt
      have HS := Aside0.mk (max_succ xs x j hlt)
      obtain ⟨m, hm⟩ : ∃ m, (xs.take j).foldl maxF x = m := ⟨_, rfl⟩
      obtain ⟨y, hy⟩ : ∃ y, xs.getD j 0 = y := ⟨_, rfl⟩
      rw [hm]
      rw [hm, hy] at HS
      rw [hy] at hcj
      clear hm hy
      go_wp2
      go_roundw
      case rel => exact ⟨j + 1, by omega, by rw [HS.out], by go_num, trivial⟩
      case measure => simp [intOf]; omega
    · obtain rfl : j = xs.length := by omega
      rw [List.take_length]
      go_wp2
      go_ret
      exact ⟨rfl, rfl⟩
end Go.Proofs.Ytnbhkogjamdfhaa.X
