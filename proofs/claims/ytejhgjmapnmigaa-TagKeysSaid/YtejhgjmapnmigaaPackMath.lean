/- Numbers as bytes, seven bits each: put, taken, listed; no program here. -/
import Derived.Test.YtejhgjmapnmigaaBase
import Derived.Laws.BitsLemmas
namespace Go.Proofs.Ytejhgjmapnmigaa.X
open Go.RowKit Go.Proofs.YtejhgjmapnmigaaW.PrintWords Go.Proofs.YtejhgjmapnmigaaW.PrintLast Go.Proofs.YtejhgjmapnmigaaW.PrintMore

/-! Texts as lists of bytes. -/
def ofL (l : List UInt8) : ByteArray := ⟨l.toArray⟩
theorem ofL_list (l : List UInt8) : (ofL l).data.toList = l := rfl
theorem ofL_toList (l : List UInt8) : (ofL l).toList = l := by rw [toList_eq]; rfl
theorem ofL_size (l : List UInt8) : (ofL l).size = l.length := rfl
theorem ofL_of (s : ByteArray) : ofL s.data.toList = s := bytes_ext rfl
theorem ofL_append (l m : List UInt8) : ofL l ++ ofL m = ofL (l ++ m) := bytes_ext (by rw [ByteArray.toList_data_append]; rfl)
theorem ofL_nil : ofL [] = ⟨#[]⟩ := rfl
theorem str_ofL (l : List UInt8) : strOfNums (ints l) = ofL l := bytes_ext (by rw [str_ints]; rfl)
theorem extract_from (s : ByteArray) (j : Nat) : s.extract j s.size = ofL (s.data.toList.drop j) := by
  apply bytes_ext
  rw [ofL_list]
  simp only [ByteArray.data_extract, Array.toList_extract, List.extract_eq_take_drop]
  rw [List.take_of_length_le]
  simp

/-! A number's bytes. -/
def digs (n : Nat) : List UInt8 := if n < 128 then [UInt8.ofNat n] else UInt8.ofNat (128 + n % 128) :: digs (n / 128)
termination_by n
decreasing_by omega
theorem digs_small {n : Nat} (h : n < 128) : digs n = [UInt8.ofNat n] := by rw [digs, if_pos h]
theorem digs_more {n : Nat} (h : ¬ n < 128) : digs n = UInt8.ofNat (128 + n % 128) :: digs (n / 128) := by rw [digs, if_neg h]
theorem digs_ne (n : Nat) : digs n ≠ [] := by
  rw [digs]
  split <;> simp
theorem digs_pos (n : Nat) : 1 ≤ (digs n).length := by
  cases h : digs n with
  | nil => exact absurd h (digs_ne n)
  | cons x l => simp
def top : Nat := 1099511627776

/-- What a list of bytes begins with. -/
def takeL : Nat → Nat → List UInt8 → Option (Nat × List UInt8)
  | _, _, [] => none
  | i, n, c :: l => if 6 ≤ i then none else if c.toNat < 128 then (if (i = 0 ∨ 0 < c.toNat) ∧ n + c.toNat % 128 * 128 ^ i ≤ top then some (n + c.toNat % 128 * 128 ^ i, l) else none) else takeL (i + 1) (n + c.toNat % 128 * 128 ^ i) l

theorem pow_i (i : Nat) : 128 ^ (i + 1) = 128 * 128 ^ i := by rw [Nat.pow_succ, Nat.mul_comm]
theorem small_i {i m : Nat} (hm : 0 < m) (h : m * 128 ^ i ≤ top) : i < 6 := by
  rcases Nat.lt_or_ge i 6 with h6 | h6
  · exact h6
  · have h1 : 128 ^ 6 ≤ 128 ^ i := Nat.pow_le_pow_right (by decide) h6
    have h2 : 1 * 128 ^ i ≤ m * 128 ^ i := Nat.mul_le_mul_right _ hm
    unfold top at h
    omega
theorem byte_nat (m : Nat) (h : m < 256) : (UInt8.ofNat m).toNat = m := by rw [UInt8.toNat_ofNat']; omega
/-- What was put is taken. -/
theorem takeL_digs (r : List UInt8) : ∀ (n i acc : Nat), (i = 0 ∨ 0 < n) → acc + n * 128 ^ i ≤ top → takeL i acc (digs n ++ r) = some (acc + n * 128 ^ i, r) := by
  intro n
  induction n using Nat.strongRecOn with
  | _ n ih =>
    intro i acc hi hb
    have h6 : i < 6 := by
      rcases hi with hi | hi
      · omega
      · exact small_i hi (by omega)
    by_cases h : n < 128
    · rw [digs_small h, List.singleton_append]
      simp only [takeL]
      rw [if_neg (by omega), byte_nat n (by omega), if_pos h, Nat.mod_eq_of_lt h, if_pos ⟨hi, hb⟩]
    · rw [digs_more h, List.cons_append]
      simp only [takeL]
      have hlt : n % 128 < 128 := Nat.mod_lt _ (by decide)
      have e : acc + n % 128 * 128 ^ i + n / 128 * 128 ^ (i + 1) = acc + n * 128 ^ i := by
        rw [pow_i, ← Nat.mul_assoc, Nat.add_assoc, ← Nat.add_mul]
        congr 2
        omega
      rw [if_neg (by omega), byte_nat _ (by omega), if_neg (by omega), show (128 + n % 128) % 128 = n % 128 by omega, ih (n / 128) (by omega) (i + 1) _ (.inr (by omega)) (by omega), e]
/-- What is taken was put. -/
theorem takeL_back : ∀ (l : List UInt8) (i acc n : Nat) (r : List UInt8), takeL i acc l = some (n, r) →
    ∃ m, n = acc + m * 128 ^ i ∧ l = digs m ++ r ∧ (i = 0 ∨ 0 < m) ∧ n ≤ top
  | [], _, _, _, _, h => by simp [takeL] at h
  | c :: l, i, acc, n, r, h => by
    simp only [takeL] at h
    by_cases h6 : 6 ≤ i
    · rw [if_pos h6] at h; cases h
    rw [if_neg h6] at h
    have hc8 := c.toNat_lt
    by_cases hc : c.toNat < 128
    · rw [if_pos hc] at h
      by_cases hg : (i = 0 ∨ 0 < c.toNat) ∧ acc + c.toNat % 128 * 128 ^ i ≤ top
      · rw [if_pos hg] at h
        simp only [Option.some.injEq, Prod.mk.injEq] at h
        obtain ⟨rfl, rfl⟩ := h
        refine ⟨c.toNat % 128, rfl, ?_, ?_, hg.2⟩
        · rw [Nat.mod_eq_of_lt hc, digs_small hc]
          simp
        · rw [Nat.mod_eq_of_lt hc]; exact hg.1
      · rw [if_neg hg] at h; cases h
    · rw [if_neg hc] at h
      obtain ⟨m, rfl, rfl, hm, hb⟩ := takeL_back l _ _ n r h
      have hm' : 0 < m := by
        rcases hm with hm | hm
        · omega
        · exact hm
      have e : acc + c.toNat % 128 * 128 ^ i + m * 128 ^ (i + 1) = acc + (c.toNat % 128 + 128 * m) * 128 ^ i := by
        rw [pow_i, ← Nat.mul_assoc, Nat.add_assoc, ← Nat.add_mul]
        congr 2
        omega
      refine ⟨c.toNat % 128 + 128 * m, e, ?_, .inr (by omega), hb⟩
      rw [digs_more (n := c.toNat % 128 + 128 * m) (by omega), List.cons_append]
      congr 1
      · apply UInt8.toNat.inj
        rw [byte_nat _ (by omega)]
        omega
      · congr 2
        omega
def take0 (l : List UInt8) : Option (Nat × List UInt8) := takeL 0 0 l
theorem take0_digs (n : Nat) (h : n ≤ top) (r : List UInt8) : take0 (digs n ++ r) = some (n, r) := by
  have := takeL_digs r n 0 0 (.inl rfl) (by simpa using h)
  simpa [take0] using this
theorem take0_back {l r : List UInt8} {n : Nat} (h : take0 l = some (n, r)) : l = digs n ++ r ∧ n ≤ top := by
  obtain ⟨m, h1, h2, _, h4⟩ := takeL_back l 0 0 n r h
  simp only [Nat.pow_zero, Nat.mul_one, Nat.zero_add] at h1
  subst h1
  exact ⟨h2, h4⟩
theorem take0_cut (n : Nat) (h : n ≤ top) (l : List UInt8) (x : UInt8) (e : digs n = l ++ [x]) : take0 l = none := by
  cases h2 : take0 l with
  | none => rfl
  | some p =>
    obtain ⟨m, r⟩ := p
    obtain ⟨h3, h4⟩ := take0_back h2
    have h5 := take0_digs n h []
    rw [List.append_nil, e, h3, List.append_assoc, take0_digs m h4] at h5
    simp at h5
theorem digs_pre (a b : Nat) (ha : a ≤ top) (hb : b ≤ top) (r : List UInt8) (h : digs b = digs a ++ r) : a = b := by
  have h1 := take0_digs b hb []
  rw [List.append_nil, h, take0_digs a ha] at h1
  simpa using congrArg (fun o => (o.map Prod.fst).getD 0) h1

/-! Lists of numbers. -/
def flat (l : List Nat) : List UInt8 := l.flatMap digs
def packL (l : List Nat) : List UInt8 := digs l.length ++ flat l
def loopU : Nat → List Nat → List UInt8 → Option (List Nat × List UInt8)
  | 0, out, r => some (out, r)
  | n + 1, out, r => match take0 r with
    | none => none
    | some (k, r') => loopU n (out ++ [k]) r'
def unpackL (l : List UInt8) : Option (List Nat × List UInt8) :=
  match take0 l with
  | none => none
  | some (n, r) => if r.length < n then none else loopU n [] r
theorem flat_cons (x : Nat) (l : List Nat) : flat (x :: l) = digs x ++ flat l := by simp [flat]
theorem flat_length (l : List Nat) : l.length ≤ (flat l).length := by
  induction l with
  | nil => simp [flat]
  | cons x l ih =>
    rw [flat_cons, List.length_append, List.length_cons]
    have := digs_pos x
    omega
theorem loopU_flat (r : List UInt8) : ∀ (l out : List Nat), (∀ x ∈ l, x ≤ top) → loopU l.length out (flat l ++ r) = some (out ++ l, r)
  | [], out, _ => by simp [loopU, flat]
  | x :: l, out, h => by
    rw [List.length_cons, flat_cons, List.append_assoc]
    simp only [loopU]
    rw [take0_digs x (h x (by simp))]
    have := loopU_flat r l (out ++ [x]) (fun y hy => h y (by simp [hy]))
    simpa using this
theorem loopU_back : ∀ (n : Nat) (out : List Nat) (l : List UInt8) (o : List Nat) (r : List UInt8), loopU n out l = some (o, r) →
    ∃ m, o = out ++ m ∧ m.length = n ∧ l = flat m ++ r ∧ ∀ x ∈ m, x ≤ top
  | 0, out, l, o, r, h => by
    simp only [loopU, Option.some.injEq, Prod.mk.injEq] at h
    obtain ⟨rfl, rfl⟩ := h
    exact ⟨[], by simp, rfl, by simp [flat], by simp⟩
  | n + 1, out, l, o, r, h => by
    simp only [loopU] at h
    cases ht : take0 l with
    | none => rw [ht] at h; cases h
    | some p =>
      obtain ⟨k, r'⟩ := p
      rw [ht] at h
      obtain ⟨m, rfl, rfl, rfl, hm⟩ := loopU_back n (out ++ [k]) r' o r h
      obtain ⟨rfl, hk⟩ := take0_back ht
      refine ⟨k :: m, by simp, rfl, by rw [flat_cons, List.append_assoc], ?_⟩
      intro x hx
      rcases List.mem_cons.mp hx with rfl | hx
      · exact hk
      · exact hm x hx
theorem unpack_pack (l : List Nat) (h : ∀ x ∈ l, x ≤ top) (hl : l.length ≤ top) (r : List UInt8) : unpackL (packL l ++ r) = some (l, r) := by
  unfold unpackL packL
  rw [List.append_assoc, take0_digs _ hl]
  have := flat_length l
  simp only
  rw [if_neg (by rw [List.length_append]; omega), loopU_flat r l [] h]
  rfl
theorem unpack_back {l r : List UInt8} {o : List Nat} (h : unpackL l = some (o, r)) : l = packL o ++ r ∧ (∀ x ∈ o, x ≤ top) ∧ o.length ≤ top := by
  unfold unpackL at h
  cases ht : take0 l with
  | none => rw [ht] at h; cases h
  | some p =>
    obtain ⟨n, r'⟩ := p
    rw [ht] at h
    simp only at h
    by_cases hn : r'.length < n
    · rw [if_pos hn] at h; cases h
    · rw [if_neg hn] at h
      obtain ⟨m, rfl, rfl, rfl, hm⟩ := loopU_back n [] r' o r h
      obtain ⟨rfl, hk⟩ := take0_back ht
      refine ⟨?_, by simpa using hm, by simpa using hk⟩
      unfold packL
      simp
theorem unpack_cut (l : List Nat) (h : ∀ x ∈ l, x ≤ top) (hl : l.length ≤ top) (m : List UInt8) (x : UInt8) (e : packL l = m ++ [x]) : unpackL m = none := by
  cases h2 : unpackL m with
  | none => rfl
  | some p =>
    obtain ⟨o, r⟩ := p
    obtain ⟨h3, h4, h5⟩ := unpack_back h2
    have h6 := unpack_pack l h hl []
    rw [List.append_nil, e, h3, List.append_assoc, unpack_pack o h4 h5] at h6
    simp at h6

/-! The numbers of Go. -/
theorem or128 (n : Nat) : Go.bits .or .u8 ((n : Int) % 256) 128 = ((UInt8.ofNat (128 + n % 128)).toNat : Int) := by
  have key : ∀ m : Fin 256, m.val ||| 128 = 128 + m.val % 128 := by decide +kernel
  have h1 : ((n : Int) % 256) = ((n % 256 : Nat) : Int) := by omega
  have h2 : (128 : Int) = ((128 : Nat) : Int) := rfl
  rw [h1, h2, (bits_nat .u8 8 (by decide) wraps_u8 (n % 256) 128 (by omega) (by decide)).2, byte_nat _ (by omega)]
  have := key ⟨n % 256, by omega⟩
  simp only at this
  rw [this]
  omega
theorem andnot128 (c : UInt8) : Go.bits .andNot .i64 (c.toNat : Int) 128 = ((c.toNat % 128 : Nat) : Int) := by
  have key : ∀ m : Fin 256, Go.bits .andNot .i64 (m.val : Int) 128 = ((m.val % 128 : Nat) : Int) := by decide +kernel
  exact key ⟨c.toNat, c.toNat_lt⟩
theorem or_comm64 (x y : Int) : Go.bits .or .i64 x y = Go.bits .or .i64 y x := by
  show IntKind.i64.wrap ((BitVec.ofInt 64 x ||| BitVec.ofInt 64 y).toNat : Int) = IntKind.i64.wrap ((BitVec.ofInt 64 y ||| BitVec.ofInt 64 x).toNat : Int)
  rw [BitVec.or_comm]
theorem shl_i (c i : Nat) (hi : i < 6) (hc : c < 128) : shl .i64 (c : Int) (wrap64 (7 * (i : Int))) = ((c * 128 ^ i : Nat) : Int) := by
  unfold shl
  rw [wrap64_in (by omega) (by omega), IntKind.wrap_i64]
  have : i = 0 ∨ i = 1 ∨ i = 2 ∨ i = 3 ∨ i = 4 ∨ i = 5 := by omega
  rcases this with rfl | rfl | rfl | rfl | rfl | rfl <;> simp [IntKind.bits] <;> omega
theorem or_join (n c i : Nat) (hi : i < 6) (hn : n < 128 ^ i) (hc : c < 128) :
    Go.bits .or .i64 (n : Int) (shl .i64 (c : Int) (wrap64 (7 * (i : Int)))) = ((n + c * 128 ^ i : Nat) : Int) := by
  rw [shl_i c i hi hc, or_comm64]
  have hk : ∀ n : Int, 0 ≤ n → n < 2 ^ 63 → IntKind.i64.wrap n = n := fun n h0 h1 => by rw [IntKind.wrap_i64]; omega
  have : i = 0 ∨ i = 1 ∨ i = 2 ∨ i = 3 ∨ i = 4 ∨ i = 5 := by omega
  have fin : ∀ (j : Nat), j ≤ 63 → ((c * 128 ^ i : Nat) : Int) % 2 ^ j = 0 → ((c * 128 ^ i : Nat) : Int) < 2 ^ 63 → (n : Int) < 2 ^ j → (n : Int) < 2 ^ 63 → Go.bits .or .i64 ((c * 128 ^ i : Nat) : Int) (n : Int) = ((n + c * 128 ^ i : Nat) : Int) := by
    intro j hj h1 h2 h3 h4
    rw [bits_join .i64 63 (by decide) hk j _ _ (by omega) h1 h2 (by omega) h3 h4]
    omega
  rcases this with rfl | rfl | rfl | rfl | rfl | rfl
  · exact fin 0 (by omega) (by omega) (by omega) (by omega) (by omega)
  · exact fin 7 (by omega) (by omega) (by omega) (by omega) (by omega)
  · exact fin 14 (by omega) (by omega) (by omega) (by omega) (by omega)
  · exact fin 21 (by omega) (by omega) (by omega) (by omega) (by omega)
  · exact fin 28 (by omega) (by omega) (by omega) (by omega) (by omega)
  · exact fin 35 (by omega) (by omega) (by omega) (by omega) (by omega)

end Go.Proofs.Ytejhgjmapnmigaa.X
