/- A sum's four bytes: the walk of the program's function, its loop of four rounds unrolled. -/
import Derived.Test.YtpbmcienlbdcbaaWMore
import Derived.Test.YtpbmcienlbdcbaaProg
import Derived.Handy
namespace Go.Proofs.Ytpbmcienlbdcbaa.X
open Go.RowKit Go.Proofs.YtpbmcienlbdcbaaW.PrintWords Go.Proofs.YtpbmcienlbdcbaaW.PrintLast

theorem four_reads (w : World) (e : TypeId) (a b c d : Int) : ReadsInt (w.alloc (.cells #[.int .u8 a, .int .u8 b, .int .u8 c, .int .u8 d] e)) .u8 (some ⟨w.heap.size, 0, none⟩) 4 [a, b, c, d] := by
  refine ⟨rfl, by omega, fun _ => ⟨_, rfl, fun j hj => ?_⟩⟩
  match j, hj with
  | 0, _ => simp [Addr.add, go_sem]
  | 1, _ => simp [Addr.add, go_sem]
  | 2, _ => simp [Addr.add, go_sem]
  | 3, _ => simp [Addr.add, go_sem]

set_option maxHeartbeats 400000 in
set_option maxRecDepth 100000 in
theorem bytes_in (a0 : Int) (w : World) (h0 : 0 ≤ a0) (h1 : a0 < 4294967296) :
    Calls Try.prog 25 #[.int .i64 a0] w fun e w' => e = .returned (.string (strOfNums [a0 % 256, a0 / 256 % 256, a0 / 65536 % 256, a0 / 16777216])) ∧ Below w.heap.size w w' := by
  have c1 : (a0 % 4294967296 : Int) = a0 := by omega
  have c2 : ((a0 : Int) != a0 % 4294967296) = false := by rw [c1]; simp
  go_enter Try.func25, Try.ntmps25
  go_wp2
  go_rounds 5
  rw [string_of_reads (P := Try.prog) Try.underlying40 Try.underlying5 Try.underlying9 (four_reads w 74 _ _ _ _)]
  simp only [Result.andThen_ok, Oper.upon]
  go_wp2
  go_ret
  exact ⟨rfl, (Below.refl _ w).alloc (Nat.le_refl _) _⟩
set_option maxHeartbeats 400000 in
set_option maxRecDepth 100000 in
theorem bytes_out (a0 : Int) (w : World) (h : ¬ (0 ≤ a0 ∧ a0 < 4294967296)) :
    Calls Try.prog 25 #[.int .i64 a0] w fun e w' => e = .returned (.string ⟨#[]⟩) ∧ Below w.heap.size w w' := by
  have c2 : ((a0 : Int) != a0 % 4294967296) = true := by rw [bne_iff_ne]; omega
  go_enter Try.func25, Try.ntmps25
  go_wp2
  go_ret
  exact ⟨rfl, Below.refl _ w⟩
end Go.Proofs.Ytpbmcienlbdcbaa.X
