/- Written by a program of this session (wip/xp) out of the translation: functions in plain Lean, and proofs that the calls come to these. -/
import Derived.Test.YtpbmcienlbdcbaaPAllx0
import Derived.Test.YtpbmcienlbdcbaaCrcBytes
namespace Go.Proofs.Ytpbmcienlbdcbaa.PAll
open Go.RowKit Go.Proofs.YtpbmcienlbdcbaaW.PrintWords Go.Proofs.YtpbmcienlbdcbaaW.PrintLast Go.Proofs.YtpbmcienlbdcbaaW.PrintMore
attribute [local go_sem] max2_int min2_int max_two min_two max_three min_three max_four min_four   -- for this text's walks alone
set_option linter.unusedVariables false
set_option linter.unusedSimpArgs false

-- XIMPORT CrcBytes
-- XPART
/-! ### crc_Bytes: function 25 -/
def crc_Bytes.f (a0 : Int) : Option (ByteArray) := some (if 0 ≤ a0 ∧ a0 < 4294967296 then strOfNums [a0 % 256, a0 / 256 % 256, a0 / 65536 % 256, a0 / 16777216] else ⟨#[]⟩)
theorem crc_Bytes.calls (a0 : Int) (r : ByteArray) (w : World) (h : crc_Bytes.f a0 = some r) :
  Calls Try.prog 25 #[.int .i64 a0] w fun e w' => e = .returned (.string r) ∧ Below w.heap.size w w' := by
 unfold crc_Bytes.f at h
 obtain rfl := Option.some.inj h
 by_cases hc : 0 ≤ a0 ∧ a0 < 4294967296
 ·
  rw [if_pos hc]; exact X.bytes_in a0 w hc.1 hc.2
 ·
  rw [if_neg hc]; exact X.bytes_out a0 w hc

end Go.Proofs.Ytpbmcienlbdcbaa.PAll
