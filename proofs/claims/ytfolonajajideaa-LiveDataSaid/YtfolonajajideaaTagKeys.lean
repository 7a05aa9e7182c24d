/- The walks of the library's IsSorted and of the tag's check of its keys. -/
import Derived.Test.YtfolonajajideaaTagWalk
import Derived.Test.YtfolonajajideaaTagCompact
namespace Go.Proofs.Ytfolonajajideaa.X
open Go.RowKit Go.Proofs.YtfolonajajideaaW.PrintWords Go.Proofs.YtfolonajajideaaW.PrintLast
/-- No number behind a greater one, up to place k. -/
def srt (l : List Int) : Nat → Bool
  | 0 => true
  | k + 1 => srt l k && (k == 0 || !decide (l.getD k 0 < l.getD (k - 1) 0))
theorem srt_bad (l : List Int) {j n : Nat} (hj : 1 ≤ j) (hn : j < n) (hb : l.getD j 0 < l.getD (j - 1) 0) : srt l n = false := by
  induction n with
  | zero => omega
  | succ n ih =>
    rw [srt]
    by_cases h : j = n
    · subst h
      have : (j == 0) = false := beq_eq_false_iff_ne.mpr (by omega)
      rw [this, decide_eq_true hb]
      simp
    · rw [ih (by omega), Bool.false_and]
theorem srt_good (l : List Int) (n : Nat) (h : ∀ j, 1 ≤ j → j < n → ¬ l.getD j 0 < l.getD (j - 1) 0) : srt l n = true := by
  induction n with
  | zero => rfl
  | succ n ih =>
    rw [srt, ih (fun j h1 h2 => h j h1 (by omega)), Bool.true_and]
    by_cases h0 : n = 0
    · subst h0; rfl
    · rw [decide_eq_false (h n (by omega) (by omega))]; simp
/-- May these be a record's keys? -/
def keysV (l : List Int) : Bool := decide (0 < (l.length : Int)) && decide ((l.length : Int) ≤ 8) && !l.any oddK && (srt l l.length && noRep l l.length)
theorem drew_below {n0 : Nat} {w w1 w2 : World} (h : Below n0 w w1) (h2 : ∃ m, w2 = w1.drewN m) : Below n0 w w2 := by
  obtain ⟨m, rfl⟩ := h2
  exact pw_below_drewN h m
theorem R_some1 {v : Value} {e base : Nat} {W : World} {ok : Nat → Prop} {xs : List Int} (h : Kd.R (Kd.int .i64) e W base ok v xs) : (xs = [] ∧ ∃ A c, v = .slice A 0 c) ∨ 0 < xs.length := by
  rcases xs with _ | ⟨x, l⟩
  · obtain ⟨A, c, rfl⟩ := Kd.R_slice h
    exact .inl ⟨rfl, A, c, rfl⟩
  · exact .inr (by simp)
end Go.Proofs.Ytfolonajajideaa.X
