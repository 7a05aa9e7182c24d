/- (Chapter 1, over this seat.) What the printed sums of the bytes come to: the plain sum over 32 bits. -/
import Derived.Test.YtejhgjmapnmigaaCrcMath
import Derived.Test.YtejhgjmapnmigaaBase
import Derived.Test.YtejhgjmapnmigaaPAllx8
import Derived.Test.YtejhgjmapnmigaaPAllx15
namespace Go.Proofs.Ytejhgjmapnmigaa.X
open Go.RowKit Go.Proofs.Ytejhgjmapnmigaa.PAll Go.Proofs.YtejhgjmapnmigaaW.PrintWords Go.Proofs.YtejhgjmapnmigaaW.PrintLast Go.Proofs.YtejhgjmapnmigaaW.PrintMore

/-! The program's sum. -/
theorem sum_l1 (s : ByteArray) (x7 x8 : Int) (r : Int) : ∀ (d : Nat) (c : BitVec 32), d ≤ 8 →
    Ev (fun k => crc_Sum.l0 k s ((iterB d c).toNat : Int) x7 (wrap64 (x8 + 1))) r →
    Ev (fun k => crc_Sum.l1 k s (c.toNat : Int) x7 x8 (8 - (d : Int))) r
  | 0, c, _, h => by
    refine Ev.step (f := fun k => crc_Sum.l0 k s (c.toNat : Int) x7 (wrap64 (x8 + 1))) (fun k => ?_) h
    simp only [crc_Sum.l1]
    rw [if_neg (by omega)]
  | d + 1, c, hd, h => by
    have ih := sum_l1 s x7 x8 r d (stepB c) (by omega) h
    have hw : wrap64 (8 - ((d + 1 : Nat) : Int) + 1) = 8 - (d : Int) := by rw [wrap64_in (by omega) (by omega)]; omega
    refine Ev.step (fun k => ?_) ih
    simp only [crc_Sum.l1]
    rw [if_pos (by omega), hw, bits_and1]
    by_cases hc : c.toNat % 2 = 1
    · rw [if_neg (by omega)]
      have e : Go.bits .xor .u32 ((c.toNat : Int) / 2) 3988292384 = ((stepB c).toNat : Int) := by
        have h1 : (c.toNat : Int) / (2 : Int) = ((c >>> 1).toNat : Int) := by simp [Nat.shiftRight_eq_div_pow]
        have h2 : (3988292384 : Int) = ((3988292384#32 : BitVec 32).toNat : Int) := rfl
        rw [h1, h2, bits_xor32]
        congr 2
        unfold stepB
        have h0 : c.getLsbD 0 = true := by rw [BitVec.getLsbD, Nat.testBit_zero, hc]; rfl
        rw [h0]; rfl
      rw [e]
    · rw [if_pos (by omega)]
      have e : (c.toNat : Int) / (2 : Int) = ((stepB c).toNat : Int) := by rw [stepB_toNat_even c (by omega)]; omega
      rw [e]

theorem byte_u32 (x : UInt8) : (x.toNat : Int) % 4294967296 = ((BitVec.ofNat 32 x.toNat).toNat : Int) := by
  have := x.toNat_lt
  rw [BitVec.toNat_ofNat, Nat.mod_eq_of_lt (by omega)]
  omega
theorem byte_i64 (x : UInt8) : wrap64 (x.toNat : Int) = ((BitVec.ofNat 32 x.toNat).toNat : Int) := by
  have := x.toNat_lt
  rw [BitVec.toNat_ofNat, Nat.mod_eq_of_lt (by omega), wrap64_in (by omega) (by omega)]

theorem sum_l0 (s : ByteArray) (hs : s.size ≤ 9223372036854775807) : ∀ (d i : Nat) (c : BitVec 32), i + d = s.size →
    Ev (fun k => crc_Sum.l0 k s (c.toNat : Int) (s.size : Int) (i : Int)) ((crcB c (s.data.toList.drop i) ^^^ ones).toNat : Int)
  | 0, i, c, hi => by
    have e : s.data.toList.drop i = [] := List.drop_eq_nil_of_le (by rw [data_length]; omega)
    rw [e]
    refine Ev.step (f := fun _ => some ((crcB c [] ^^^ ones).toNat : Int)) (fun k => ?_) (Ev.now _)
    simp only [crc_Sum.l0]
    rw [if_neg (by omega)]
    have h2 : (4294967295 : Int) = (ones.toNat : Int) := rfl
    rw [h2, bits_xor32, BitVec.xor_comm]
    have := (c ^^^ ones).isLt
    rw [wrap64_in (by omega) (by omega)]
    rfl
  | d + 1, i, c, hi => by
    obtain ⟨x, rest, e1, e2, e3⟩ := bt_get s i (by omega)
    have ih := sum_l0 s hs d (i + 1) (byteB c x) (by omega)
    rw [e1, crcB_cons, ← e2]
    refine Ev.step (f := fun k => crc_Sum.l1 k s ((c ^^^ BitVec.ofNat 32 x.toNat).toNat : Int) (s.size : Int) (i : Int) (8 - ((8 : Nat) : Int))) (fun k => ?_) (sum_l1 s _ _ _ 8 _ (by omega) ?_)
    · simp only [crc_Sum.l0]
      rw [if_pos (by omega), if_pos (by omega), if_pos (by omega), e3, byte_u32, bits_xor32]
      rfl
    · have : wrap64 ((i : Int) + 1) = ((i + 1 : Nat) : Int) := by rw [wrap64_in (by omega) (by omega)]; omega
      rw [this]
      exact ih
theorem sum_ev (s : ByteArray) (hs : s.size ≤ 9223372036854775807) : Ev (fun k => crc_Sum.f k s) ((sumB s.data.toList).toNat : Int) := by
  have h := sum_l0 s hs s.size 0 ones (by omega)
  rw [List.drop_zero] at h
  exact Ev.congr (fun k => rfl) h

/-! The document's sum. -/
theorem rstep (c : BitVec 32) : clinkerref01_step.f (c.toNat : Int) = some ((stepB c).toNat : Int) := by
  unfold clinkerref01_step.f
  have e1 : Int.tmod (c.toNat : Int) 2 = ((c.toNat % 2 : Nat) : Int) := by
    rw [Int.tmod_eq_emod_of_nonneg (by omega)]; omega
  have e2 : wrap64 (Int.tdiv (c.toNat : Int) 2) = ((c >>> 1).toNat : Int) := by
    have := c.isLt
    rw [Int.tdiv_eq_ediv_of_nonneg (by omega), wrap64_in (by omega) (by omega)]
    simp [Nat.shiftRight_eq_div_pow]
  rw [e1, e2]
  by_cases hc : c.toNat % 2 = 1
  · rw [if_pos (by omega)]
    have h2 : (3988292384 : Int) = ((3988292384#32 : BitVec 32).toNat : Int) := rfl
    rw [h2, bits_xor64]
    unfold stepB
    have h0 : c.getLsbD 0 = true := by rw [BitVec.getLsbD, Nat.testBit_zero, hc]; rfl
    rw [h0]; rfl
  · rw [if_neg (by omega), stepB_toNat_even c (by omega)]
    simp [Nat.shiftRight_eq_div_pow]
theorem rsum_l1 (s : ByteArray) (x4 : Int) (r : Int) : ∀ (d : Nat) (c : BitVec 32), d ≤ 8 →
    Ev (fun k => clinkerref01_Sum.l0 k s ((iterB d c).toNat : Int) (wrap64 (x4 + 1))) r →
    Ev (fun k => clinkerref01_Sum.l1 k s (c.toNat : Int) x4 (8 - (d : Int))) r
  | 0, c, _, h => by
    refine Ev.step (f := fun k => clinkerref01_Sum.l0 k s (c.toNat : Int) (wrap64 (x4 + 1))) (fun k => ?_) h
    simp only [clinkerref01_Sum.l1]
    rw [if_neg (by omega)]
  | d + 1, c, hd, h => by
    have ih := rsum_l1 s x4 r d (stepB c) (by omega) h
    have hw : wrap64 (8 - ((d + 1 : Nat) : Int) + 1) = 8 - (d : Int) := by rw [wrap64_in (by omega) (by omega)]; omega
    refine Ev.step (fun k => ?_) ih
    simp only [clinkerref01_Sum.l1]
    rw [if_pos (by omega), hw, rstep]
    rfl
theorem rsum_l0 (s : ByteArray) (hs : s.size ≤ 9223372036854775807) : ∀ (d i : Nat) (c : BitVec 32), i + d = s.size →
    Ev (fun k => clinkerref01_Sum.l0 k s (c.toNat : Int) (i : Int)) ((crcB c (s.data.toList.drop i) ^^^ ones).toNat : Int)
  | 0, i, c, hi => by
    have e : s.data.toList.drop i = [] := List.drop_eq_nil_of_le (by rw [data_length]; omega)
    rw [e]
    refine Ev.step (f := fun _ => some ((crcB c [] ^^^ ones).toNat : Int)) (fun k => ?_) (Ev.now _)
    simp only [clinkerref01_Sum.l0]
    rw [if_neg (by omega)]
    have h2 : (4294967295 : Int) = (ones.toNat : Int) := rfl
    rw [h2, bits_xor64]
    rfl
  | d + 1, i, c, hi => by
    obtain ⟨x, rest, e1, e2, e3⟩ := bt_get s i (by omega)
    have ih := rsum_l0 s hs d (i + 1) (byteB c x) (by omega)
    rw [e1, crcB_cons, ← e2]
    refine Ev.step (f := fun k => clinkerref01_Sum.l1 k s ((c ^^^ BitVec.ofNat 32 x.toNat).toNat : Int) (i : Int) (8 - ((8 : Nat) : Int))) (fun k => ?_) (rsum_l1 s _ _ 8 _ (by omega) ?_)
    · simp only [clinkerref01_Sum.l0]
      rw [if_pos (by omega), if_pos (by omega), e3, byte_i64, bits_xor64]
      rfl
    · have : wrap64 ((i : Int) + 1) = ((i + 1 : Nat) : Int) := by rw [wrap64_in (by omega) (by omega)]; omega
      rw [this]
      exact ih
theorem rsum_ev (s : ByteArray) (hs : s.size ≤ 9223372036854775807) : Ev (fun k => clinkerref01_Sum.f k s) ((sumB s.data.toList).toNat : Int) := by
  have h := rsum_l0 s hs s.size 0 ones (by omega)
  rw [List.drop_zero] at h
  exact Ev.congr (fun k => rfl) h

end Go.Proofs.Ytejhgjmapnmigaa.X
