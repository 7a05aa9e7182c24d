/- The arithmetic of the sum of the bytes of a text over 32 bits: it is linear and it can be undone. No program here. -/
import Derived.Laws.BitsLemmas
import Derived.WalkKit
namespace Go.Proofs.Ytejhgjmapnmigaa.X
open Go.RowKit

/-- One bit more. -/
def stepB (c : BitVec 32) : BitVec 32 := (c >>> 1) ^^^ (if c.getLsbD 0 then 3988292384#32 else 0#32)
def iterB : Nat → BitVec 32 → BitVec 32
  | 0, c => c
  | n + 1, c => iterB n (stepB c)
/-- One byte more. -/
def byteB (c : BitVec 32) (x : UInt8) : BitVec 32 := iterB 8 (c ^^^ BitVec.ofNat 32 x.toNat)
def crcB (c : BitVec 32) (l : List UInt8) : BitVec 32 := l.foldl byteB c
def ones : BitVec 32 := 4294967295#32
def sumB (l : List UInt8) : BitVec 32 := crcB ones l ^^^ ones

theorem xlc (a b c : BitVec 32) : a ^^^ (b ^^^ c) = b ^^^ (a ^^^ c) := by
  rw [← BitVec.xor_assoc, BitVec.xor_comm a b, BitVec.xor_assoc]
theorem xself (a c : BitVec 32) : a ^^^ (a ^^^ c) = c := by
  rw [← BitVec.xor_assoc, BitVec.xor_self, BitVec.zero_xor]

theorem stepB_xor (a b : BitVec 32) : stepB (a ^^^ b) = stepB a ^^^ stepB b := by
  unfold stepB
  rw [BitVec.ushiftRight_xor_distrib, BitVec.getLsbD_xor]
  cases a.getLsbD 0 <;> cases b.getLsbD 0
  · simp
  · simp [BitVec.xor_assoc]
  · simp only [if_true, Bool.xor_false, Bool.false_eq_true, if_false, BitVec.xor_zero, BitVec.xor_assoc]
    rw [BitVec.xor_comm (b >>> 1)]
  · simp only [if_true, Bool.xor_self, Bool.false_eq_true, if_false, BitVec.xor_zero, BitVec.xor_assoc]
    rw [xlc 3988292384#32 (b >>> 1), BitVec.xor_self, BitVec.xor_zero]
theorem iterB_xor : ∀ (n : Nat) (a b : BitVec 32), iterB n (a ^^^ b) = iterB n a ^^^ iterB n b
  | 0, _, _ => rfl
  | n + 1, a, b => by
    show iterB n (stepB (a ^^^ b)) = _
    rw [stepB_xor, iterB_xor n]
    rfl
theorem iterB_add : ∀ (m n : Nat) (c : BitVec 32), iterB (m + n) c = iterB n (iterB m c)
  | 0, n, c => by rw [Nat.zero_add]; rfl
  | m + 1, n, c => by
    rw [show m + 1 + n = (m + n) + 1 by omega]
    exact iterB_add m n (stepB c)
theorem stepB_toNat_even (c : BitVec 32) (h : c.toNat % 2 = 0) : (stepB c).toNat = c.toNat / 2 := by
  unfold stepB
  have h0 : c.getLsbD 0 = false := by
    rw [BitVec.getLsbD, Nat.testBit_zero, h]; rfl
  rw [h0]
  simp [Nat.shiftRight_eq_div_pow]
theorem stepB_zero (d : BitVec 32) (h : stepB d = 0#32) : d = 0#32 := by
  have hd : (d >>> 1).toNat = d.toNat / 2 := by simp [Nat.shiftRight_eq_div_pow]
  have hlt := d.isLt
  unfold stepB at h
  cases h0 : d.getLsbD 0
  · rw [h0] at h
    simp only [Bool.false_eq_true, if_false, BitVec.xor_zero] at h
    rw [h] at hd
    have hp : d.toNat % 2 = 0 := by
      rw [BitVec.getLsbD, Nat.testBit_zero] at h0
      have := of_decide_eq_false h0
      omega
    have hz : (0#32 : BitVec 32).toNat = 0 := rfl
    apply BitVec.eq_of_toNat_eq
    omega
  · rw [h0] at h
    simp only [if_true] at h
    have h1 : d >>> 1 = 3988292384#32 := by
      have := congrArg (fun x => x ^^^ 3988292384#32) h
      simpa [BitVec.xor_assoc] using this
    rw [h1] at hd
    have hz : (3988292384#32 : BitVec 32).toNat = 3988292384 := rfl
    omega
theorem stepB_inj (a b : BitVec 32) (h : stepB a = stepB b) : a = b := by
  have h1 : stepB (a ^^^ b) = 0#32 := by rw [stepB_xor, h, BitVec.xor_self]
  have h2 := stepB_zero _ h1
  have h3 := congrArg (fun x => x ^^^ b) h2
  simpa [BitVec.xor_assoc] using h3
theorem iterB_inj : ∀ (n : Nat) (a b : BitVec 32), iterB n a = iterB n b → a = b
  | 0, _, _, h => h
  | n + 1, a, b, h => stepB_inj a b (iterB_inj n _ _ h)
theorem byteB_inj (a b : BitVec 32) (x : UInt8) (h : byteB a x = byteB b x) : a = b := by
  have h2 := iterB_inj 8 _ _ h
  have h3 := congrArg (fun z => z ^^^ BitVec.ofNat 32 x.toNat) h2
  simpa [BitVec.xor_assoc] using h3
theorem byteB_sep (a : BitVec 32) (x y : UInt8) (h : byteB a x = byteB a y) : x = y := by
  have h2 := iterB_inj 8 _ _ h
  have h3 : BitVec.ofNat 32 x.toNat = BitVec.ofNat 32 y.toNat := by
    have := congrArg (fun z => a ^^^ z) h2
    simpa only [xself] using this
  have h4 := congrArg BitVec.toNat h3
  simp only [BitVec.toNat_ofNat] at h4
  have hx := x.toNat_lt
  have hy := y.toNat_lt
  apply UInt8.toNat.inj
  omega
theorem crcB_inj : ∀ (l : List UInt8) (a b : BitVec 32), crcB a l = crcB b l → a = b
  | [], _, _, h => h
  | x :: l, a, b, h => byteB_inj a b x (crcB_inj l _ _ h)
theorem crcB_append (c : BitVec 32) (l m : List UInt8) : crcB c (l ++ m) = crcB (crcB c l) m := by
  unfold crcB
  rw [List.foldl_append]
theorem crcB_cons (c : BitVec 32) (x : UInt8) (m : List UInt8) : crcB c (x :: m) = crcB (byteB c x) m := rfl

/-! The three texts' law. -/
def xor3 : List UInt8 → List UInt8 → List UInt8 → List UInt8
  | a :: l, b :: m, c :: n => (a ^^^ b ^^^ c) :: xor3 l m n
  | _, _, _ => []
theorem ofNat_xor8 (a b : UInt8) : BitVec.ofNat 32 (a ^^^ b).toNat = BitVec.ofNat 32 a.toNat ^^^ BitVec.ofNat 32 b.toNat := by
  rw [UInt8.toNat_xor]
  apply BitVec.eq_of_toNat_eq
  have ha := a.toNat_lt
  have hb := b.toNat_lt
  have hx : a.toNat ^^^ b.toNat < 2 ^ 8 := Nat.xor_lt_two_pow (by omega) (by omega)
  simp only [BitVec.toNat_xor, BitVec.toNat_ofNat]
  rw [Nat.mod_eq_of_lt (by omega), Nat.mod_eq_of_lt (by omega), Nat.mod_eq_of_lt (by omega)]
theorem byteB_xor3 (s t u : BitVec 32) (a b c : UInt8) : byteB (s ^^^ t ^^^ u) (a ^^^ b ^^^ c) = byteB s a ^^^ byteB t b ^^^ byteB u c := by
  unfold byteB
  rw [ofNat_xor8, ofNat_xor8, ← iterB_xor, ← iterB_xor]
  congr 1
  simp only [BitVec.xor_assoc]
  congr 1
  rw [xlc u (BitVec.ofNat 32 a.toNat), xlc t (BitVec.ofNat 32 a.toNat)]
  congr 2
  rw [xlc u (BitVec.ofNat 32 b.toNat)]
theorem crcB_xor3 : ∀ (l m n : List UInt8) (s t u : BitVec 32), l.length = m.length → m.length = n.length →
    crcB (s ^^^ t ^^^ u) (xor3 l m n) = crcB s l ^^^ crcB t m ^^^ crcB u n
  | [], [], [], _, _, _, _, _ => rfl
  | a :: l, b :: m, c :: n, s, t, u, h1, h2 => by
    have h1' : l.length = m.length := by simpa using h1
    have h2' : m.length = n.length := by simpa using h2
    show crcB (byteB (s ^^^ t ^^^ u) (a ^^^ b ^^^ c)) (xor3 l m n) = _
    rw [byteB_xor3]
    exact crcB_xor3 l m n _ _ _ h1' h2'
theorem sumB_xor3 (l m n : List UInt8) (h1 : l.length = m.length) (h2 : m.length = n.length) :
    sumB (xor3 l m n) = sumB l ^^^ sumB m ^^^ sumB n := by
  unfold sumB
  have h := crcB_xor3 l m n ones ones ones h1 h2
  rw [show ones ^^^ ones ^^^ ones = ones by rw [BitVec.xor_self, BitVec.zero_xor]] at h
  rw [h]
  simp only [BitVec.xor_assoc]
  congr 1
  rw [xlc ones (crcB ones m)]
  congr 1
  rw [xself]

/-! A sum's own bytes behind the text. -/
theorem ofNat_join (x m : Nat) (hx : x < 256) (hm : x + 256 * m < 4294967296) : BitVec.ofNat 32 (x + 256 * m) = BitVec.ofNat 32 x ^^^ BitVec.ofNat 32 (256 * m) := by
  apply BitVec.eq_of_toNat_eq
  simp only [BitVec.toNat_xor, BitVec.toNat_ofNat]
  rw [Nat.mod_eq_of_lt (by omega), Nat.mod_eq_of_lt (by omega), Nat.mod_eq_of_lt (by omega)]
  apply Nat.eq_of_testBit_eq
  intro i
  have h1 := Nat.testBit_two_pow_mul_add m (i := 8) (b := x) (by omega) i
  rw [show (2 : Nat) ^ 8 = 256 by rfl] at h1
  rw [Nat.add_comm, h1, Nat.testBit_xor]
  have h2 := Nat.testBit_two_pow_mul_add m (i := 8) (b := 0) (by omega) i
  rw [show (2 : Nat) ^ 8 = 256 by rfl, Nat.add_zero] at h2
  rw [h2]
  by_cases hi : i < 8
  · rw [if_pos hi, if_pos hi]; simp
  · rw [if_neg hi, if_neg hi]
    have : x.testBit i = false := Nat.testBit_lt_two_pow (Nat.lt_of_lt_of_le (show x < 2 ^ 8 by omega) (Nat.pow_le_pow_right (by decide) (by omega)))
    rw [this]; simp
theorem iterB_even : ∀ (n y : Nat) (c : BitVec 32), c.toNat = y * 2 ^ n → (iterB n c).toNat = y
  | 0, y, c, h => by
    have : (iterB 0 c).toNat = c.toNat := rfl
    omega
  | n + 1, y, c, h => by
    have h2 : c.toNat = 2 * (y * 2 ^ n) := by rw [h, Nat.pow_succ]; rw [← Nat.mul_assoc, Nat.mul_comm]
    have h3 := stepB_toNat_even c (by omega)
    exact iterB_even n y (stepB c) (by omega)
theorem iterB_shift (m : Nat) (hm : 256 * m < 4294967296) : iterB 8 (BitVec.ofNat 32 (256 * m)) = BitVec.ofNat 32 m := by
  apply BitVec.eq_of_toNat_eq
  rw [iterB_even 8 m, BitVec.toNat_ofNat, Nat.mod_eq_of_lt (by omega)]
  rw [BitVec.toNat_ofNat, Nat.mod_eq_of_lt (by omega)]
  omega
theorem byteB_part (s : BitVec 32) (x : UInt8) (m : Nat) (hm : x.toNat + 256 * m < 4294967296) :
    iterB 8 (s ^^^ BitVec.ofNat 32 (x.toNat + 256 * m)) = byteB s x ^^^ BitVec.ofNat 32 m := by
  unfold byteB
  rw [ofNat_join _ _ x.toNat_lt hm, ← BitVec.xor_assoc, iterB_xor 8 (s ^^^ _), iterB_shift m (by omega)]
/-- A number's four bytes, the least first. -/
def four (n : Nat) : List UInt8 := [UInt8.ofNat (n % 256), UInt8.ofNat (n / 256 % 256), UInt8.ofNat (n / 65536 % 256), UInt8.ofNat (n / 16777216 % 256)]
theorem toNat8 (n : Nat) : (UInt8.ofNat (n % 256)).toNat = n % 256 := by
  rw [UInt8.toNat_ofNat']; omega
theorem crcB_four (s : BitVec 32) (n : Nat) (hn : n < 4294967296) : crcB s (four n) = iterB 32 (s ^^^ BitVec.ofNat 32 n) := by
  unfold four
  rw [crcB_cons, crcB_cons, crcB_cons, crcB_cons]
  show byteB (byteB (byteB (byteB s _) _) _) _ = _
  rw [show ∀ z, iterB 32 z = iterB 8 (iterB 8 (iterB 8 (iterB 8 z))) from fun _ => rfl]
  have e1 : iterB 8 (s ^^^ BitVec.ofNat 32 n) = byteB s (UInt8.ofNat (n % 256)) ^^^ BitVec.ofNat 32 (n / 256) := by
    rw [← byteB_part s (UInt8.ofNat (n % 256)) (n / 256) (by rw [toNat8]; omega), toNat8]
    congr 3; omega
  rw [e1]
  generalize byteB s (UInt8.ofNat (n % 256)) = s1
  have e2 : iterB 8 (s1 ^^^ BitVec.ofNat 32 (n / 256)) = byteB s1 (UInt8.ofNat (n / 256 % 256)) ^^^ BitVec.ofNat 32 (n / 65536) := by
    rw [← byteB_part s1 (UInt8.ofNat (n / 256 % 256)) (n / 65536) (by rw [toNat8]; omega), toNat8]
    congr 3; omega
  rw [e2]
  generalize byteB s1 (UInt8.ofNat (n / 256 % 256)) = s2
  have e3 : iterB 8 (s2 ^^^ BitVec.ofNat 32 (n / 65536)) = byteB s2 (UInt8.ofNat (n / 65536 % 256)) ^^^ BitVec.ofNat 32 (n / 16777216) := by
    rw [← byteB_part s2 (UInt8.ofNat (n / 65536 % 256)) (n / 16777216) (by rw [toNat8]; omega), toNat8]
    congr 3; omega
  rw [e3]
  generalize byteB s2 (UInt8.ofNat (n / 65536 % 256)) = s3
  have e4 : iterB 8 (s3 ^^^ BitVec.ofNat 32 (n / 16777216)) = byteB s3 (UInt8.ofNat (n / 16777216 % 256)) ^^^ BitVec.ofNat 32 0 := by
    rw [← byteB_part s3 (UInt8.ofNat (n / 16777216 % 256)) 0 (by rw [toNat8]; omega), toNat8]
    congr 3; omega
  rw [e4]
  simp
theorem xor_ones (c : BitVec 32) : c ^^^ BitVec.ofNat 32 (c ^^^ ones).toNat = ones := by
  rw [BitVec.ofNat_toNat, BitVec.setWidth_eq, xself]
theorem sumB_behind (l : List UInt8) : sumB (l ++ four (sumB l).toNat) = sumB (four 0) := by
  unfold sumB
  congr 1
  rw [crcB_append, crcB_four _ _ (BitVec.isLt _), crcB_four _ _ (by decide), xor_ones]
  simp

/-! Noughts. -/
theorem byteB_nought (c : BitVec 32) : byteB c 0 = iterB 8 c := by
  unfold byteB
  simp
theorem crcB_noughts : ∀ (n : Nat) (c : BitVec 32), crcB c (List.replicate n 0) = iterB (8 * n) c
  | 0, _ => rfl
  | n + 1, c => by
    rw [List.replicate_succ, crcB_cons, crcB_noughts n, byteB_nought, ← iterB_add]
    congr 1; omega
def away : Nat → BitVec 32 → Bool
  | 0, _ => true
  | n + 1, c => (iterB 8 c != ones) && away n (iterB 8 c)
theorem away_spec : ∀ (n : Nat) (c : BitVec 32), away n c = true → ∀ d, d < n → iterB (8 * (d + 1)) c ≠ ones
  | 0, _, _, d, hd => absurd hd (Nat.not_lt_zero d)
  | n + 1, c, h, d, hd => by
    have h' : (iterB 8 c != ones) = true ∧ away n (iterB 8 c) = true := by
      have : ((iterB 8 c != ones) && away n (iterB 8 c)) = true := h
      simpa using this
    cases d with
    | zero => exact bne_iff_ne.mp h'.1
    | succ d =>
      have := away_spec n (iterB 8 c) h'.2 d (by omega)
      rw [show 8 * (d + 1 + 1) = 8 + 8 * (d + 1) by omega, iterB_add]
      exact this
theorem away_ones : away 200 ones = true := by decide +kernel
theorem noughts_apart (a b : Nat) (ha : a < 200) (hb : b < 200) : (sumB (List.replicate a 0) = sumB (List.replicate b 0)) ↔ a = b := by
  constructor
  · intro h
    have h1 : iterB (8 * a) ones = iterB (8 * b) ones := by
      unfold sumB at h
      rw [crcB_noughts, crcB_noughts] at h
      have := congrArg (fun z => z ^^^ ones) h
      simpa [BitVec.xor_assoc] using this
    have key : ∀ a b : Nat, a < b → b < 200 → iterB (8 * a) ones = iterB (8 * b) ones → False := by
      intro a b hab hb h
      rw [show 8 * b = 8 * (b - a) + 8 * a by omega, iterB_add] at h
      have h2 := iterB_inj _ _ _ h
      have h3 := away_spec 200 ones away_ones (b - a - 1) (by omega)
      rw [show b - a - 1 + 1 = b - a by omega] at h3
      exact h3 h2.symm
    rcases Nat.lt_trichotomy a b with h2 | h2 | h2
    · exact (key a b h2 hb h1).elim
    · exact h2
    · exact (key b a h2 ha h1.symm).elim
  · rintro rfl; rfl

/-! The numbers of Go. -/
theorem bits_xor32 (a b : BitVec 32) : Go.bits .xor .u32 (a.toNat : Int) (b.toNat : Int) = ((a ^^^ b).toNat : Int) := by
  show IntKind.u32.wrap ((BitVec.ofInt 32 (a.toNat : Int) ^^^ BitVec.ofInt 32 (b.toNat : Int)).toNat : Int) = _
  rw [BitVec.ofInt_natCast, BitVec.ofInt_natCast, BitVec.ofNat_toNat, BitVec.ofNat_toNat, BitVec.setWidth_eq, BitVec.setWidth_eq, IntKind.wrap_u32]
  have := (a ^^^ b).isLt
  omega
theorem bits_xor64 (a b : BitVec 32) : Go.bits .xor .i64 (a.toNat : Int) (b.toNat : Int) = ((a ^^^ b).toNat : Int) := by
  show IntKind.i64.wrap ((BitVec.ofInt 64 (a.toNat : Int) ^^^ BitVec.ofInt 64 (b.toNat : Int)).toNat : Int) = _
  have ha := a.isLt
  have hb := b.isLt
  have hx : a.toNat ^^^ b.toNat < 2 ^ 32 := Nat.xor_lt_two_pow ha hb
  rw [BitVec.ofInt_natCast, BitVec.ofInt_natCast, BitVec.toNat_xor, BitVec.toNat_ofNat, BitVec.toNat_ofNat, BitVec.toNat_xor]
  rw [Nat.mod_eq_of_lt (by omega), Nat.mod_eq_of_lt (by omega), IntKind.wrap_i64]
  omega
theorem bits_and1 (a : BitVec 32) : Go.bits .and .u32 (a.toNat : Int) 1 = ((a.toNat % 2 : Nat) : Int) := by
  show IntKind.u32.wrap ((BitVec.ofInt 32 (a.toNat : Int) &&& 1#32).toNat : Int) = _
  rw [BitVec.ofInt_natCast, BitVec.ofNat_toNat, BitVec.setWidth_eq, BitVec.toNat_and, show (1#32 : BitVec 32).toNat = 1 from rfl, Nat.and_one_is_mod, IntKind.wrap_u32]
  omega
theorem stepB_nat (c : BitVec 32) : (stepB c).toNat = if c.toNat % 2 = 1 then (c.toNat / 2) ^^^ 3988292384 else c.toNat / 2 := by
  by_cases h : c.toNat % 2 = 1
  · rw [if_pos h]
    unfold stepB
    have h0 : c.getLsbD 0 = true := by rw [BitVec.getLsbD, Nat.testBit_zero, h]; rfl
    rw [h0]
    simp [BitVec.toNat_xor, Nat.shiftRight_eq_div_pow]
  · rw [if_neg h]
    exact stepB_toNat_even c (by omega)

end Go.Proofs.Ytejhgjmapnmigaa.X
