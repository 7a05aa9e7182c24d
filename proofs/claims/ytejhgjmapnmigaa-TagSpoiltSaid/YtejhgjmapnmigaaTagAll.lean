/- The pure side of chapter 3, in one text: packed numbers, sums, records as tags. -/
import Derived.Test.YtejhgjmapnmigaaBase
import Derived.Laws.BitsLemmas
import Derived.Test.YtejhgjmapnmigaaPAllx6
import Derived.Test.YtejhgjmapnmigaaPAllx14
import Derived.Test.YtejhgjmapnmigaaPAllx15
import Derived.Test.YtejhgjmapnmigaaPAllx12
import Derived.Test.YtejhgjmapnmigaaPAllx10
import Derived.WalkKit
import Derived.Test.YtejhgjmapnmigaaPAllx8
import Derived.Test.YtejhgjmapnmigaaTagRight
import Derived.Test.YtejhgjmapnmigaaPAllx9
import Derived.Test.YtejhgjmapnmigaaPAllx16
namespace Go.Proofs.Ytejhgjmapnmigaa.X
open Go.RowKit Go.Proofs.Ytejhgjmapnmigaa.PAll Go.Proofs.YtejhgjmapnmigaaW.PrintWords Go.Proofs.YtejhgjmapnmigaaW.PrintLast Go.Proofs.YtejhgjmapnmigaaW.PrintMore

/-! Texts as lists of bytes. -/
def ofL (l : List UInt8) : ByteArray := ⟨l.toArray⟩
theorem ofL_list (l : List UInt8) : (ofL l).data.toList = l := rfl
theorem ofL_toList (l : List UInt8) : (ofL l).toList = l := by rw [toList_eq]; rfl
theorem ofL_size (l : List UInt8) : (ofL l).size = l.length := rfl
theorem ofL_of (s : ByteArray) : ofL s.data.toList = s := bytes_ext rfl
theorem ofL_append (l m : List UInt8) : ofL l ++ ofL m = ofL (l ++ m) := bytes_ext (by rw [ByteArray.toList_data_append]; rfl)
theorem ofL_nil : ofL [] = ⟨#[]⟩ := rfl
theorem str_ofL (l : List UInt8) : strOfNums (ints l) = ofL l := bytes_ext (by rw [str_ints]; rfl)
theorem extract_from (s : ByteArray) (j : Nat) : s.extract j s.size = ofL (s.data.toList.drop j) := by
  apply bytes_ext
  rw [ofL_list]
  simp only [ByteArray.data_extract, Array.toList_extract, List.extract_eq_take_drop]
  rw [List.take_of_length_le]
  simp

/-! A number's bytes. -/
def digs (n : Nat) : List UInt8 := if n < 128 then [UInt8.ofNat n] else UInt8.ofNat (128 + n % 128) :: digs (n / 128)
termination_by n
decreasing_by omega
theorem digs_small {n : Nat} (h : n < 128) : digs n = [UInt8.ofNat n] := by rw [digs, if_pos h]
theorem digs_more {n : Nat} (h : ¬ n < 128) : digs n = UInt8.ofNat (128 + n % 128) :: digs (n / 128) := by rw [digs, if_neg h]
theorem digs_ne (n : Nat) : digs n ≠ [] := by
  rw [digs]
  split <;> simp
theorem digs_pos (n : Nat) : 1 ≤ (digs n).length := by
  cases h : digs n with
  | nil => exact absurd h (digs_ne n)
  | cons x l => simp
def top : Nat := 1099511627776

/-- What a list of bytes begins with. -/
def takeL : Nat → Nat → List UInt8 → Option (Nat × List UInt8)
  | _, _, [] => none
  | i, n, c :: l => if 6 ≤ i then none else if c.toNat < 128 then (if (i = 0 ∨ 0 < c.toNat) ∧ n + c.toNat % 128 * 128 ^ i ≤ top then some (n + c.toNat % 128 * 128 ^ i, l) else none) else takeL (i + 1) (n + c.toNat % 128 * 128 ^ i) l

theorem pow_i (i : Nat) : 128 ^ (i + 1) = 128 * 128 ^ i := by rw [Nat.pow_succ, Nat.mul_comm]
theorem small_i {i m : Nat} (hm : 0 < m) (h : m * 128 ^ i ≤ top) : i < 6 := by
  rcases Nat.lt_or_ge i 6 with h6 | h6
  · exact h6
  · have h1 : 128 ^ 6 ≤ 128 ^ i := Nat.pow_le_pow_right (by decide) h6
    have h2 : 1 * 128 ^ i ≤ m * 128 ^ i := Nat.mul_le_mul_right _ hm
    unfold top at h
    omega
theorem byte_nat (m : Nat) (h : m < 256) : (UInt8.ofNat m).toNat = m := by rw [UInt8.toNat_ofNat']; omega
/-- What was put is taken. -/
theorem takeL_digs (r : List UInt8) : ∀ (n i acc : Nat), (i = 0 ∨ 0 < n) → acc + n * 128 ^ i ≤ top → takeL i acc (digs n ++ r) = some (acc + n * 128 ^ i, r) := by
  intro n
  induction n using Nat.strongRecOn with
  | _ n ih =>
    intro i acc hi hb
    have h6 : i < 6 := by
      rcases hi with hi | hi
      · omega
      · exact small_i hi (by omega)
    by_cases h : n < 128
    · rw [digs_small h, List.singleton_append]
      simp only [takeL]
      rw [if_neg (by omega), byte_nat n (by omega), if_pos h, Nat.mod_eq_of_lt h, if_pos ⟨hi, hb⟩]
    · rw [digs_more h, List.cons_append]
      simp only [takeL]
      have hlt : n % 128 < 128 := Nat.mod_lt _ (by decide)
      have e : acc + n % 128 * 128 ^ i + n / 128 * 128 ^ (i + 1) = acc + n * 128 ^ i := by
        rw [pow_i, ← Nat.mul_assoc, Nat.add_assoc, ← Nat.add_mul]
        congr 2
        omega
      rw [if_neg (by omega), byte_nat _ (by omega), if_neg (by omega), show (128 + n % 128) % 128 = n % 128 by omega, ih (n / 128) (by omega) (i + 1) _ (.inr (by omega)) (by omega), e]
/-- What is taken was put. -/
theorem takeL_back : ∀ (l : List UInt8) (i acc n : Nat) (r : List UInt8), takeL i acc l = some (n, r) →
    ∃ m, n = acc + m * 128 ^ i ∧ l = digs m ++ r ∧ (i = 0 ∨ 0 < m) ∧ n ≤ top
  | [], _, _, _, _, h => by simp [takeL] at h
  | c :: l, i, acc, n, r, h => by
    simp only [takeL] at h
    by_cases h6 : 6 ≤ i
    · rw [if_pos h6] at h; cases h
    rw [if_neg h6] at h
    have hc8 := c.toNat_lt
    by_cases hc : c.toNat < 128
    · rw [if_pos hc] at h
      by_cases hg : (i = 0 ∨ 0 < c.toNat) ∧ acc + c.toNat % 128 * 128 ^ i ≤ top
      · rw [if_pos hg] at h
        simp only [Option.some.injEq, Prod.mk.injEq] at h
        obtain ⟨rfl, rfl⟩ := h
        refine ⟨c.toNat % 128, rfl, ?_, ?_, hg.2⟩
        · rw [Nat.mod_eq_of_lt hc, digs_small hc]
          simp
        · rw [Nat.mod_eq_of_lt hc]; exact hg.1
      · rw [if_neg hg] at h; cases h
    · rw [if_neg hc] at h
      obtain ⟨m, rfl, rfl, hm, hb⟩ := takeL_back l _ _ n r h
      have hm' : 0 < m := by
        rcases hm with hm | hm
        · omega
        · exact hm
      have e : acc + c.toNat % 128 * 128 ^ i + m * 128 ^ (i + 1) = acc + (c.toNat % 128 + 128 * m) * 128 ^ i := by
        rw [pow_i, ← Nat.mul_assoc, Nat.add_assoc, ← Nat.add_mul]
        congr 2
        omega
      refine ⟨c.toNat % 128 + 128 * m, e, ?_, .inr (by omega), hb⟩
      rw [digs_more (n := c.toNat % 128 + 128 * m) (by omega), List.cons_append]
      congr 1
      · apply UInt8.toNat.inj
        rw [byte_nat _ (by omega)]
        omega
      · congr 2
        omega
def take0 (l : List UInt8) : Option (Nat × List UInt8) := takeL 0 0 l
theorem take0_digs (n : Nat) (h : n ≤ top) (r : List UInt8) : take0 (digs n ++ r) = some (n, r) := by
  have := takeL_digs r n 0 0 (.inl rfl) (by simpa using h)
  simpa [take0] using this
theorem take0_back {l r : List UInt8} {n : Nat} (h : take0 l = some (n, r)) : l = digs n ++ r ∧ n ≤ top := by
  obtain ⟨m, h1, h2, _, h4⟩ := takeL_back l 0 0 n r h
  simp only [Nat.pow_zero, Nat.mul_one, Nat.zero_add] at h1
  subst h1
  exact ⟨h2, h4⟩
theorem take0_cut (n : Nat) (h : n ≤ top) (l : List UInt8) (x : UInt8) (e : digs n = l ++ [x]) : take0 l = none := by
  cases h2 : take0 l with
  | none => rfl
  | some p =>
    obtain ⟨m, r⟩ := p
    obtain ⟨h3, h4⟩ := take0_back h2
    have h5 := take0_digs n h []
    rw [List.append_nil, e, h3, List.append_assoc, take0_digs m h4] at h5
    simp at h5
theorem digs_pre (a b : Nat) (ha : a ≤ top) (hb : b ≤ top) (r : List UInt8) (h : digs b = digs a ++ r) : a = b := by
  have h1 := take0_digs b hb []
  rw [List.append_nil, h, take0_digs a ha] at h1
  simpa using congrArg (fun o => (o.map Prod.fst).getD 0) h1

/-! Lists of numbers. -/
def flat (l : List Nat) : List UInt8 := l.flatMap digs
def packL (l : List Nat) : List UInt8 := digs l.length ++ flat l
def loopU : Nat → List Nat → List UInt8 → Option (List Nat × List UInt8)
  | 0, out, r => some (out, r)
  | n + 1, out, r => match take0 r with
    | none => none
    | some (k, r') => loopU n (out ++ [k]) r'
def unpackL (l : List UInt8) : Option (List Nat × List UInt8) :=
  match take0 l with
  | none => none
  | some (n, r) => if r.length < n then none else loopU n [] r
theorem flat_cons (x : Nat) (l : List Nat) : flat (x :: l) = digs x ++ flat l := by simp [flat]
theorem flat_length (l : List Nat) : l.length ≤ (flat l).length := by
  induction l with
  | nil => simp [flat]
  | cons x l ih =>
    rw [flat_cons, List.length_append, List.length_cons]
    have := digs_pos x
    omega
theorem loopU_flat (r : List UInt8) : ∀ (l out : List Nat), (∀ x ∈ l, x ≤ top) → loopU l.length out (flat l ++ r) = some (out ++ l, r)
  | [], out, _ => by simp [loopU, flat]
  | x :: l, out, h => by
    rw [List.length_cons, flat_cons, List.append_assoc]
    simp only [loopU]
    rw [take0_digs x (h x (by simp))]
    have := loopU_flat r l (out ++ [x]) (fun y hy => h y (by simp [hy]))
    simpa using this
theorem loopU_back : ∀ (n : Nat) (out : List Nat) (l : List UInt8) (o : List Nat) (r : List UInt8), loopU n out l = some (o, r) →
    ∃ m, o = out ++ m ∧ m.length = n ∧ l = flat m ++ r ∧ ∀ x ∈ m, x ≤ top
  | 0, out, l, o, r, h => by
    simp only [loopU, Option.some.injEq, Prod.mk.injEq] at h
    obtain ⟨rfl, rfl⟩ := h
    exact ⟨[], by simp, rfl, by simp [flat], by simp⟩
  | n + 1, out, l, o, r, h => by
    simp only [loopU] at h
    cases ht : take0 l with
    | none => rw [ht] at h; cases h
    | some p =>
      obtain ⟨k, r'⟩ := p
      rw [ht] at h
      obtain ⟨m, rfl, rfl, rfl, hm⟩ := loopU_back n (out ++ [k]) r' o r h
      obtain ⟨rfl, hk⟩ := take0_back ht
      refine ⟨k :: m, by simp, rfl, by rw [flat_cons, List.append_assoc], ?_⟩
      intro x hx
      rcases List.mem_cons.mp hx with rfl | hx
      · exact hk
      · exact hm x hx
theorem unpack_pack (l : List Nat) (h : ∀ x ∈ l, x ≤ top) (hl : l.length ≤ top) (r : List UInt8) : unpackL (packL l ++ r) = some (l, r) := by
  unfold unpackL packL
  rw [List.append_assoc, take0_digs _ hl]
  have := flat_length l
  simp only
  rw [if_neg (by rw [List.length_append]; omega), loopU_flat r l [] h]
  rfl
theorem unpack_back {l r : List UInt8} {o : List Nat} (h : unpackL l = some (o, r)) : l = packL o ++ r ∧ (∀ x ∈ o, x ≤ top) ∧ o.length ≤ top := by
  unfold unpackL at h
  cases ht : take0 l with
  | none => rw [ht] at h; cases h
  | some p =>
    obtain ⟨n, r'⟩ := p
    rw [ht] at h
    simp only at h
    by_cases hn : r'.length < n
    · rw [if_pos hn] at h; cases h
    · rw [if_neg hn] at h
      obtain ⟨m, rfl, rfl, rfl, hm⟩ := loopU_back n [] r' o r h
      obtain ⟨rfl, hk⟩ := take0_back ht
      refine ⟨?_, by simpa using hm, by simpa using hk⟩
      unfold packL
      simp
theorem unpack_cut (l : List Nat) (h : ∀ x ∈ l, x ≤ top) (hl : l.length ≤ top) (m : List UInt8) (x : UInt8) (e : packL l = m ++ [x]) : unpackL m = none := by
  cases h2 : unpackL m with
  | none => rfl
  | some p =>
    obtain ⟨o, r⟩ := p
    obtain ⟨h3, h4, h5⟩ := unpack_back h2
    have h6 := unpack_pack l h hl []
    rw [List.append_nil, e, h3, List.append_assoc, unpack_pack o h4 h5] at h6
    simp at h6

/-! The numbers of Go. -/
theorem or128 (n : Nat) : Go.bits .or .u8 ((n : Int) % 256) 128 = ((UInt8.ofNat (128 + n % 128)).toNat : Int) := by
  have key : ∀ m : Fin 256, m.val ||| 128 = 128 + m.val % 128 := by decide +kernel
  have h1 : ((n : Int) % 256) = ((n % 256 : Nat) : Int) := by omega
  have h2 : (128 : Int) = ((128 : Nat) : Int) := rfl
  rw [h1, h2, (bits_nat .u8 8 (by decide) wraps_u8 (n % 256) 128 (by omega) (by decide)).2, byte_nat _ (by omega)]
  have := key ⟨n % 256, by omega⟩
  simp only at this
  rw [this]
  omega
theorem andnot128 (c : UInt8) : Go.bits .andNot .i64 (c.toNat : Int) 128 = ((c.toNat % 128 : Nat) : Int) := by
  have key : ∀ m : Fin 256, Go.bits .andNot .i64 (m.val : Int) 128 = ((m.val % 128 : Nat) : Int) := by decide +kernel
  exact key ⟨c.toNat, c.toNat_lt⟩
theorem or_comm64 (x y : Int) : Go.bits .or .i64 x y = Go.bits .or .i64 y x := by
  show IntKind.i64.wrap ((BitVec.ofInt 64 x ||| BitVec.ofInt 64 y).toNat : Int) = IntKind.i64.wrap ((BitVec.ofInt 64 y ||| BitVec.ofInt 64 x).toNat : Int)
  rw [BitVec.or_comm]
theorem shl_i (c i : Nat) (hi : i < 6) (hc : c < 128) : shl .i64 (c : Int) (wrap64 (7 * (i : Int))) = ((c * 128 ^ i : Nat) : Int) := by
  unfold shl
  rw [wrap64_in (by omega) (by omega), IntKind.wrap_i64]
  have : i = 0 ∨ i = 1 ∨ i = 2 ∨ i = 3 ∨ i = 4 ∨ i = 5 := by omega
  rcases this with rfl | rfl | rfl | rfl | rfl | rfl <;> simp [IntKind.bits] <;> omega
theorem or_join (n c i : Nat) (hi : i < 6) (hn : n < 128 ^ i) (hc : c < 128) :
    Go.bits .or .i64 (n : Int) (shl .i64 (c : Int) (wrap64 (7 * (i : Int)))) = ((n + c * 128 ^ i : Nat) : Int) := by
  rw [shl_i c i hi hc, or_comm64]
  have hk : ∀ n : Int, 0 ≤ n → n < 2 ^ 63 → IntKind.i64.wrap n = n := fun n h0 h1 => by rw [IntKind.wrap_i64]; omega
  have : i = 0 ∨ i = 1 ∨ i = 2 ∨ i = 3 ∨ i = 4 ∨ i = 5 := by omega
  have fin : ∀ (j : Nat), j ≤ 63 → ((c * 128 ^ i : Nat) : Int) % 2 ^ j = 0 → ((c * 128 ^ i : Nat) : Int) < 2 ^ 63 → (n : Int) < 2 ^ j → (n : Int) < 2 ^ 63 → Go.bits .or .i64 ((c * 128 ^ i : Nat) : Int) (n : Int) = ((n + c * 128 ^ i : Nat) : Int) := by
    intro j hj h1 h2 h3 h4
    rw [bits_join .i64 63 (by decide) hk j _ _ (by omega) h1 h2 (by omega) h3 h4]
    omega
  rcases this with rfl | rfl | rfl | rfl | rfl | rfl
  · exact fin 0 (by omega) (by omega) (by omega) (by omega) (by omega)
  · exact fin 7 (by omega) (by omega) (by omega) (by omega) (by omega)
  · exact fin 14 (by omega) (by omega) (by omega) (by omega) (by omega)
  · exact fin 21 (by omega) (by omega) (by omega) (by omega) (by omega)
  · exact fin 28 (by omega) (by omega) (by omega) (by omega) (by omega)
  · exact fin 35 (by omega) (by omega) (by omega) (by omega) (by omega)



/-! Put -/
def putI (x : Int) : List UInt8 := if 0 ≤ x ∧ x ≤ 1099511627776 then digs x.toNat else []
theorem putI_nat (n : Nat) (h : n ≤ top) : putI (n : Int) = digs n := by
  unfold putI top at *
  rw [if_pos (by omega), Int.toNat_natCast]
theorem byte_mod (n : Nat) (h : n < 128) : ((n : Int) % 256) = ((UInt8.ofNat n).toNat : Int) := by
  rw [byte_nat n (by omega)]; omega
theorem put_l0 : ∀ (n : Nat) (pre : List UInt8), pre.length + n < 140737488355328 → Ev (fun k => pack_Put.l0 k (n : Int) (ints pre)) (ofL (pre ++ digs n)) := by
  intro n
  induction n using Nat.strongRecOn with
  | _ n ih =>
    intro pre hl
    refine Ev.step (fun k => pack_Put.l0.eq_2 ..) ?_
    by_cases h : n < 128
    · rw [digs_small h]
      refine Ev.ite_neg (by omega) (Ev.ite_pos (by rw [ints_length]; omega) ?_)
      rw [byte_mod n h, ints_snoc, str_ofL]
      exact Ev.now _
    · rw [digs_more h]
      have := ih (n / 128) (by omega) (pre ++ [UInt8.ofNat (128 + n % 128)]) (by simp; omega)
      rw [List.append_assoc, List.singleton_append] at this
      refine Ev.ite_pos (by omega) (Ev.ite_pos (by rw [ints_length]; omega) ?_)
      rw [or128, ints_snoc]
      exact this
theorem put_ev (x : Int) : Ev (fun k => pack_Put.f k x) (ofL (putI x)) := by
  unfold pack_Put.f putI
  by_cases h0 : x < 0
  · rw [if_neg (by omega)]
    exact Ev.ite_pos h0 (Ev.step (fun k => pack_Put.j0.eq_2 ..) (Ev.ite_pos rfl (Ev.now _)))
  · refine Ev.ite_neg h0 (Ev.step (fun k => pack_Put.j0.eq_2 ..) ?_)
    by_cases h1 : x > 1099511627776
    · rw [if_neg (by omega)]
      exact Ev.ite_pos (decide_eq_true h1) (Ev.now _)
    · rw [if_pos (by omega)]
      refine Ev.ite_neg (by rw [decide_eq_true_iff]; exact h1) ?_
      have := put_l0 x.toNat [] (by simp; omega)
      rw [Int.toNat_of_nonneg (by omega)] at this
      exact this

theorem rput_l0 : ∀ (n : Nat) (pre : List UInt8), pre.length + n < 140737488355328 → Ev (fun k => clinkerref02_Put.l0 k (n : Int) (ofL pre)) (ofL (pre ++ digs n)) := by
  intro n
  induction n using Nat.strongRecOn with
  | _ n ih =>
    intro pre hl
    refine Ev.step (fun k => clinkerref02_Put.l0.eq_2 ..) ?_
    by_cases h : n < 128
    · rw [digs_small h]
      refine Ev.ite_neg (by omega) (Ev.pure_ ?_)
      have e : strOfNums [(n : Int) % 256] = ofL [UInt8.ofNat n] := by
        rw [byte_mod n h]
        exact str_ofL [UInt8.ofNat n]
      rw [e, ofL_append, ofL_size, ofL_size]
      exact Ev.ite_pos (by simp; omega) (Ev.now _)
    · rw [digs_more h]
      have := ih (n / 128) (by omega) (pre ++ [UInt8.ofNat (128 + n % 128)]) (by simp; omega)
      rw [List.append_assoc, List.singleton_append] at this
      refine Ev.ite_pos (by omega) (Ev.pure_ ?_)
      have e1 : wrap64 (128 + Int.tmod (n : Int) 128) % 256 = ((UInt8.ofNat (128 + n % 128)).toNat : Int) := by
        rw [byte_nat _ (by omega), Int.tmod_eq_emod_of_nonneg (by omega), wrap64_in (by omega) (by omega)]
        omega
      have e2 : wrap64 (Int.tdiv (n : Int) 128) = ((n / 128 : Nat) : Int) := by
        rw [Int.tdiv_eq_ediv_of_nonneg (by omega), wrap64_in (by omega) (by omega)]
        omega
      have e : strOfNums [wrap64 (128 + Int.tmod (n : Int) 128) % 256] = ofL [UInt8.ofNat (128 + n % 128)] := by
        rw [e1]
        exact str_ofL [UInt8.ofNat (128 + n % 128)]
      rw [e, e2, ofL_append, ofL_size, ofL_size]
      exact Ev.ite_pos (by simp; omega) this
theorem rput_ev (x : Int) : Ev (fun k => clinkerref02_Put.f k x) (ofL (putI x)) := by
  unfold clinkerref02_Put.f putI
  by_cases h0 : x < 0
  · rw [if_neg (by omega)]
    exact Ev.ite_pos h0 (Ev.step (fun k => clinkerref02_Put.j0.eq_2 ..) (Ev.ite_pos rfl (Ev.now _)))
  · refine Ev.ite_neg h0 (Ev.step (fun k => clinkerref02_Put.j0.eq_2 ..) ?_)
    by_cases h1 : x > 1099511627776
    · rw [if_neg (by omega)]
      exact Ev.ite_pos (decide_eq_true h1) (Ev.now _)
    · rw [if_pos (by omega)]
      refine Ev.ite_neg (by rw [decide_eq_true_iff]; exact h1) ?_
      have := rput_l0 x.toNat [] (by simp; omega)
      rw [Int.toNat_of_nonneg (by omega)] at this
      exact this

/-! Pack -/
def packS : List Int → List UInt8 → Option (List UInt8)
  | [], acc => some acc
  | x :: l, acc => if putI x = [] then none else packS l (acc ++ putI x)
def packE : Option (List UInt8) → ByteArray × Int
  | some l => (ofL l, 0)
  | none => (⟨#[]⟩, 1)
theorem putI_len (x : Int) : (putI x).length ≤ 6 := by
  unfold putI
  split
  · rename_i h
    have key : ∀ (j n : Nat), n < 128 ^ (j + 1) → (digs n).length ≤ j + 1 := by
      intro j
      induction j with
      | zero => intro n hn; rw [digs_small (by omega)]; simp
      | succ j ih =>
        intro n hn
        by_cases h : n < 128
        · rw [digs_small h]; simp
        · rw [digs_more h, List.length_cons]
          have h2 : 128 ^ (j + 1 + 1) = 128 * 128 ^ (j + 1) := pow_i (j + 1)
          have := ih (n / 128) (by omega)
          omega
    exact key 5 x.toNat (by omega)
  · simp
theorem drop_rd (l : List Int) (i : Nat) (h : i < l.length) : l.drop i = rd l (i : Int) :: l.drop (i + 1) := by
  rw [List.drop_eq_getElem_cons h]
  congr 1
  unfold rd
  rw [Int.toNat_natCast, List.getD_eq_getElem?_getD, List.getElem?_eq_getElem h]
  rfl
theorem pack_l0 (l : List Int) (hl : l.length ≤ 9223372036854775807) : ∀ (d i : Nat) (acc : List UInt8), i + d = l.length → acc.length + 6 * d ≤ 9223372036854775807 →
    Ev (fun k => pack_Pack.l0 k (ofL acc) l (l.length : Int) (i : Int)) (packE (packS (l.drop i) acc))
  | 0, i, acc, hi, _ => by
    rw [List.drop_eq_nil_of_le (by omega)]
    refine Ev.step (fun k => pack_Pack.l0.eq_2 ..) (Ev.ite_neg (by omega) ?_)
    exact Ev.now _
  | d + 1, i, acc, hi, ha => by
    rw [drop_rd l i (by omega)]
    have h6 := putI_len (rd l (i : Int))
    refine Ev.step (fun k => pack_Pack.l0.eq_2 ..) (Ev.ite_pos (by omega) (Ev.ite_pos (by omega) (Ev.ite_pos (by omega) (Ev.bind (put_ev _) ?_))))
    rw [ofL_toList]
    simp only [packS]
    by_cases h : putI (rd l (i : Int)) = []
    · rw [if_pos h]
      exact Ev.ite_pos h (Ev.now _)
    · rw [if_neg h]
      have := pack_l0 l hl d (i + 1) (acc ++ putI (rd l (i : Int))) (by omega) (by rw [List.length_append]; omega)
      refine Ev.ite_neg h ?_
      rw [ofL_size, ofL_size, ofL_append, wrap64_in (by omega) (by omega)]
      exact Ev.ite_pos (by omega) this
theorem pack_ev (l : List Int) (hl : l.length * 6 + 6 ≤ 9223372036854775807) : Ev (fun k => pack_Pack.f k l) (packE (packS l (putI (l.length : Int)))) := by
  unfold pack_Pack.f
  have h6 := putI_len (l.length : Int)
  have := pack_l0 l (by omega) l.length 0 (putI (l.length : Int)) (by omega) (by omega)
  rw [List.drop_zero] at this
  exact Ev.bind (put_ev _) this
theorem rpack_l0 (l : List Int) (hl : l.length ≤ 9223372036854775807) : ∀ (d i : Nat) (acc : List UInt8), i + d = l.length → acc.length + 6 * d ≤ 9223372036854775807 →
    Ev (fun k => clinkerref02_Pack.l0 k l (ofL acc) (i : Int)) (packE (packS (l.drop i) acc))
  | 0, i, acc, hi, _ => by
    rw [List.drop_eq_nil_of_le (by omega)]
    refine Ev.step (fun k => clinkerref02_Pack.l0.eq_2 ..) (Ev.ite_neg (by omega) ?_)
    exact Ev.now _
  | d + 1, i, acc, hi, ha => by
    rw [drop_rd l i (by omega)]
    have h6 := putI_len (rd l (i : Int))
    refine Ev.step (fun k => clinkerref02_Pack.l0.eq_2 ..) (Ev.ite_pos (by omega) (Ev.ite_pos (by omega) (Ev.bind (rput_ev _) ?_)))
    rw [ofL_toList]
    simp only [packS]
    by_cases h : putI (rd l (i : Int)) = []
    · rw [if_pos h]
      exact Ev.ite_pos h (Ev.now _)
    · rw [if_neg h]
      have := rpack_l0 l hl d (i + 1) (acc ++ putI (rd l (i : Int))) (by omega) (by rw [List.length_append]; omega)
      refine Ev.ite_neg h ?_
      rw [ofL_size, ofL_size, ofL_append, wrap64_in (by omega) (by omega)]
      exact Ev.ite_pos (by omega) this
theorem rpack_ev (l : List Int) (hl : l.length * 6 + 6 ≤ 9223372036854775807) : Ev (fun k => clinkerref02_Pack.f k l) (packE (packS l (putI (l.length : Int)))) := by
  unfold clinkerref02_Pack.f
  have h6 := putI_len (l.length : Int)
  have := rpack_l0 l (by omega) l.length 0 (putI (l.length : Int)) (by omega) (by omega)
  rw [List.drop_zero] at this
  exact Ev.bind (rput_ev _) this
/-- Natural numbers as Go's. -/
def nats (l : List Nat) : List Int := l.map fun (n : Nat) => (n : Int)
theorem nats_length (l : List Nat) : (nats l).length = l.length := by unfold nats; rw [List.length_map]
theorem packS_nats : ∀ (l : List Nat) (acc : List UInt8), (∀ x ∈ l, x ≤ top) → packS (nats l) acc = some (acc ++ flat l)
  | [], acc, _ => by simp [nats, packS, flat]
  | x :: l, acc, h => by
    have hx := h x (by simp)
    have := packS_nats l (acc ++ digs x) (fun y hy => h y (by simp [hy]))
    unfold nats at this ⊢
    simp only [List.map_cons, packS]
    rw [putI_nat x hx, if_neg (digs_ne x), this, flat_cons, List.append_assoc]
theorem pack_nats (l : List Nat) (h : ∀ x ∈ l, x ≤ top) (hl : l.length ≤ top) : Ev (fun k => pack_Pack.f k (nats l)) (ofL (packL l), 0) := by
  have h1 := pack_ev (nats l) (by rw [nats_length]; unfold top at hl; omega)
  rw [nats_length, putI_nat _ hl, packS_nats l _ h] at h1
  exact h1

/-! Two lists that are the same -/
theorem same_l0 (l : List Int) (hl : l.length ≤ 9223372036854775806) : ∀ (d i : Nat), i + d = l.length → Ev (fun k => clinkerref02_Same.l0 k l l (i : Int)) true
  | 0, i, hi => Ev.step (fun k => clinkerref02_Same.l0.eq_2 ..) (Ev.ite_neg (by omega) (Ev.now _))
  | d + 1, i, hi => by
    have ih := same_l0 l hl d (i + 1) (by omega)
    refine Ev.step (fun k => clinkerref02_Same.l0.eq_2 ..) (Ev.ite_pos (by omega) (Ev.ite_pos (by omega) (Ev.ite_pos (by omega) (Ev.ite_pos rfl ?_))))
    rw [wrap64_in (by omega) (by omega)]
    exact ih
theorem same_ev (l : List Int) (hl : l.length ≤ 9223372036854775806) : Ev (fun k => clinkerref02_Same.f k l l) true :=
  Ev.ite_pos rfl (same_l0 l hl l.length 0 (by omega))


/-! Take -/
def takeE : Option (Nat × List UInt8) → Int × ByteArray × Bool
  | some (n, r) => ((n : Int), ofL r, true)
  | none => (0, ⟨#[]⟩, false)
theorem drop_bt (s : ByteArray) (i : Nat) (h : i < s.size) : ∃ x, s.data.toList.drop i = x :: s.data.toList.drop (i + 1) ∧ wrap64 (bt s (i : Int)) = (x.toNat : Int) := by
  obtain ⟨x, rest, e1, e2, e3⟩ := bt_get s i h
  refine ⟨x, by rw [e1, e2], ?_⟩
  have := x.toNat_lt
  rw [e3, wrap64_in (by omega) (by omega)]
theorem pow_step {n c i : Nat} (hn : n < 128 ^ i) (hc : c < 128) : n + c * 128 ^ i < 128 ^ (i + 1) := by
  rw [pow_i]
  have h1 : c * 128 ^ i ≤ 127 * 128 ^ i := Nat.mul_le_mul_right _ (by omega)
  omega
theorem finish_eq (n : Nat) (r : List UInt8) (ok : Bool) : pack_finish.f (n : Int) (ofL r) ok = some (takeE (if ok = true ∧ n ≤ top then some (n, r) else none)) := by
  unfold pack_finish.f top
  cases ok
  · rw [if_neg (by simp), if_neg (by simp)]; rfl
  · rw [if_pos rfl]
    by_cases h : (n : Int) > 1099511627776
    · rw [if_pos h, if_neg (by omega)]; rfl
    · rw [if_neg h, if_pos ⟨rfl, by omega⟩]; rfl
theorem take_l0 (s : ByteArray) (hs : s.size ≤ 9223372036854775807) : ∀ (d i n : Nat), i + d = min s.size 6 → n < 128 ^ i →
    Ev (fun k => pack_Take.l0 k s (n : Int) ((min s.size 6 : Nat) : Int) (i : Int)) (takeE (takeL i n (s.data.toList.drop i)))
  | 0, i, n, hi, _ => by
    have e : takeL i n (s.data.toList.drop i) = none := by
      rcases Nat.lt_or_ge i s.size with h | h
      · obtain ⟨x, e1, _⟩ := drop_bt s i h
        rw [e1]
        simp only [takeL]
        rw [if_pos (by omega)]
      · rw [List.drop_eq_nil_of_le (by rw [data_length]; omega)]
        rfl
    rw [e]
    exact Ev.step (fun k => pack_Take.l0.eq_2 ..) (Ev.ite_neg (by omega) (Ev.now _))
  | d + 1, i, n, hi, hn => by
    obtain ⟨x, e1, e2⟩ := drop_bt s i (by omega)
    have hx := x.toNat_lt
    rw [e1]
    simp only [takeL]
    rw [if_neg (by omega)]
    have hw : wrap64 ((i : Int) + 1) = ((i + 1 : Nat) : Int) := by rw [wrap64_in (by omega) (by omega)]; omega
    refine Ev.step (fun k => pack_Take.l0.eq_2 ..) (Ev.ite_pos (by omega) (Ev.ite_pos (by omega) (Ev.ite_pos (by omega) ?_)))
    refine Ev.ite_pos (by rw [wrap64_in (by omega) (by omega)]; omega) ?_
    rw [e2, andnot128, or_join n (x.toNat % 128) i (by clear hn; omega) hn (Nat.mod_lt _ (by decide)), hw, Int.toNat_natCast, extract_from]
    have hn2 := pow_step hn (Nat.mod_lt x.toNat (show 0 < 128 by decide))
    clear hn
    obtain ⟨v, hv⟩ : ∃ v, n + x.toNat % 128 * 128 ^ i = v := ⟨_, rfl⟩
    rw [hv] at hn2 ⊢
    clear hv
    by_cases hc : x.toNat < 128
    · rw [if_pos hc]
      refine Ev.ite_pos (by omega) (Ev.ite_pos (by omega) (Ev.ite_pos (by omega) ?_))
      by_cases h0 : i = 0
      · refine Ev.ite_pos (by omega) ?_
        rw [finish_eq]
        have e : (if true = true ∧ v ≤ top then some (v, s.data.toList.drop (i + 1)) else none) = (if (i = 0 ∨ 0 < x.toNat) ∧ v ≤ top then some (v, s.data.toList.drop (i + 1)) else none) := by simp [h0]
        rw [e]
        exact Ev.pure_ (Ev.now _)
      · refine Ev.ite_neg (by omega) ?_
        rw [finish_eq]
        have e : (if decide ((x.toNat : Int) > 0) = true ∧ v ≤ top then some (v, s.data.toList.drop (i + 1)) else none) = (if (i = 0 ∨ 0 < x.toNat) ∧ v ≤ top then some (v, s.data.toList.drop (i + 1)) else none) := by simp [h0]
        rw [e]
        exact Ev.pure_ (Ev.now _)
    · rw [if_neg hc]
      refine Ev.ite_neg (by omega) ?_
      exact take_l0 s hs d (i + 1) _ (by omega) hn2
theorem take_ev (s : ByteArray) (hs : s.size ≤ 9223372036854775807) : Ev (fun k => pack_Take.f k s) (takeE (take0 s.data.toList)) := by
  have h := take_l0 s hs (min s.size 6) 0 0 (by omega) (by decide)
  rw [List.drop_zero] at h
  unfold pack_Take.f take0
  have e : mn (s.size : Int) 6 = ((min s.size 6 : Nat) : Int) := by
    unfold mn
    split <;> omega
  rw [e]
  exact h
theorem take_ofL (l : List UInt8) (hl : l.length ≤ 9223372036854775807) : Ev (fun k => pack_Take.f k (ofL l)) (takeE (take0 l)) := take_ev (ofL l) hl

/-! Unpack -/
def unpackE : Option (List Nat × List UInt8) → List Int × ByteArray × Int
  | some (o, r) => (nats o, ofL r, 0)
  | none => ([], ⟨#[]⟩, 20)
theorem take0_short {l r : List UInt8} {n : Nat} (h : take0 l = some (n, r)) : r.length < l.length := by
  obtain ⟨rfl, _⟩ := take0_back h
  have := digs_pos n
  rw [List.length_append]
  omega
theorem nats_snoc (o : List Nat) (k : Nat) : nats o ++ [(k : Int)] = nats (o ++ [k]) := by simp [nats]
theorem unpack_l0 (m : Nat) (hm : m ≤ top) : ∀ (d i : Nat) (out : List Nat) (l : List UInt8), i + d = m → out.length = i → l.length ≤ 9223372036854775807 →
    Ev (fun k => pack_Unpack.l0 k (nats out) (ofL l) (m : Int) (i : Int)) (unpackE (loopU d out l))
  | 0, i, out, l, hi, _, _ => by
    refine Ev.step (fun k => pack_Unpack.l0.eq_2 ..) (Ev.ite_neg (by omega) ?_)
    exact Ev.now _
  | d + 1, i, out, l, hi, ho, hl => by
    refine Ev.step (fun k => pack_Unpack.l0.eq_2 ..) (Ev.ite_pos (by omega) (Ev.bind (take_ofL l hl) ?_))
    simp only [loopU]
    cases ht : take0 l with
    | none => exact Ev.ite_neg (by simp [takeE]) (Ev.now _)
    | some p =>
      obtain ⟨k, r⟩ := p
      have h1 := take0_short ht
      have ih := unpack_l0 m hm d (i + 1) (out ++ [k]) r (by omega) (by simp [ho]) (by omega)
      unfold top at hm
      refine Ev.ite_pos rfl (Ev.ite_pos (by rw [nats_length]; omega) ?_)
      rw [wrap64_in (by omega) (by omega)]
      simp only [takeE]
      rw [nats_snoc]
      exact ih
theorem unpack_ofL (l : List UInt8) (hl : l.length ≤ 9223372036854775807) : Ev (fun k => pack_Unpack.f k (ofL l)) (unpackE (unpackL l)) := by
  unfold pack_Unpack.f unpackL
  refine Ev.bind (take_ofL l hl) ?_
  cases ht : take0 l with
  | none => exact Ev.ite_neg (by simp [takeE]) (Ev.step (fun k => pack_Unpack.j0.eq_2 ..) (Ev.ite_pos rfl (Ev.now _)))
  | some p =>
    obtain ⟨n, r⟩ := p
    have h1 := take0_short ht
    refine Ev.ite_pos rfl (Ev.step (fun k => pack_Unpack.j0.eq_2 ..) ?_)
    simp only [takeE, ofL_size]
    by_cases h : r.length < n
    · rw [if_pos h]
      exact Ev.ite_pos (decide_eq_true (by omega)) (Ev.now _)
    · rw [if_neg h]
      refine Ev.ite_neg (not_dec (by omega)) ?_
      exact unpack_l0 n (take0_back ht).2 n 0 [] r (by omega) rfl (by omega)


/-- One bit more. -/
def stepB (c : BitVec 32) : BitVec 32 := (c >>> 1) ^^^ (if c.getLsbD 0 then 3988292384#32 else 0#32)
def iterB : Nat → BitVec 32 → BitVec 32
  | 0, c => c
  | n + 1, c => iterB n (stepB c)
/-- One byte more. -/
def byteB (c : BitVec 32) (x : UInt8) : BitVec 32 := iterB 8 (c ^^^ BitVec.ofNat 32 x.toNat)
def crcB (c : BitVec 32) (l : List UInt8) : BitVec 32 := l.foldl byteB c
def ones : BitVec 32 := 4294967295#32
def sumB (l : List UInt8) : BitVec 32 := crcB ones l ^^^ ones

theorem xlc (a b c : BitVec 32) : a ^^^ (b ^^^ c) = b ^^^ (a ^^^ c) := by
  rw [← BitVec.xor_assoc, BitVec.xor_comm a b, BitVec.xor_assoc]
theorem xself (a c : BitVec 32) : a ^^^ (a ^^^ c) = c := by
  rw [← BitVec.xor_assoc, BitVec.xor_self, BitVec.zero_xor]

theorem stepB_xor (a b : BitVec 32) : stepB (a ^^^ b) = stepB a ^^^ stepB b := by
  unfold stepB
  rw [BitVec.ushiftRight_xor_distrib, BitVec.getLsbD_xor]
  cases a.getLsbD 0 <;> cases b.getLsbD 0
  · simp
  · simp [BitVec.xor_assoc]
  · simp only [if_true, Bool.xor_false, Bool.false_eq_true, if_false, BitVec.xor_zero, BitVec.xor_assoc]
    rw [BitVec.xor_comm (b >>> 1)]
  · simp only [if_true, Bool.xor_self, Bool.false_eq_true, if_false, BitVec.xor_zero, BitVec.xor_assoc]
    rw [xlc 3988292384#32 (b >>> 1), BitVec.xor_self, BitVec.xor_zero]
theorem iterB_xor : ∀ (n : Nat) (a b : BitVec 32), iterB n (a ^^^ b) = iterB n a ^^^ iterB n b
  | 0, _, _ => rfl
  | n + 1, a, b => by
    show iterB n (stepB (a ^^^ b)) = _
    rw [stepB_xor, iterB_xor n]
    rfl
theorem iterB_add : ∀ (m n : Nat) (c : BitVec 32), iterB (m + n) c = iterB n (iterB m c)
  | 0, n, c => by rw [Nat.zero_add]; rfl
  | m + 1, n, c => by
    rw [show m + 1 + n = (m + n) + 1 by omega]
    exact iterB_add m n (stepB c)
theorem stepB_toNat_even (c : BitVec 32) (h : c.toNat % 2 = 0) : (stepB c).toNat = c.toNat / 2 := by
  unfold stepB
  have h0 : c.getLsbD 0 = false := by
    rw [BitVec.getLsbD, Nat.testBit_zero, h]; rfl
  rw [h0]
  simp [Nat.shiftRight_eq_div_pow]
theorem stepB_zero (d : BitVec 32) (h : stepB d = 0#32) : d = 0#32 := by
  have hd : (d >>> 1).toNat = d.toNat / 2 := by simp [Nat.shiftRight_eq_div_pow]
  have hlt := d.isLt
  unfold stepB at h
  cases h0 : d.getLsbD 0
  · rw [h0] at h
    simp only [Bool.false_eq_true, if_false, BitVec.xor_zero] at h
    rw [h] at hd
    have hp : d.toNat % 2 = 0 := by
      rw [BitVec.getLsbD, Nat.testBit_zero] at h0
      have := of_decide_eq_false h0
      omega
    have hz : (0#32 : BitVec 32).toNat = 0 := rfl
    apply BitVec.eq_of_toNat_eq
    omega
  · rw [h0] at h
    simp only [if_true] at h
    have h1 : d >>> 1 = 3988292384#32 := by
      have := congrArg (fun x => x ^^^ 3988292384#32) h
      simpa [BitVec.xor_assoc] using this
    rw [h1] at hd
    have hz : (3988292384#32 : BitVec 32).toNat = 3988292384 := rfl
    omega
theorem stepB_inj (a b : BitVec 32) (h : stepB a = stepB b) : a = b := by
  have h1 : stepB (a ^^^ b) = 0#32 := by rw [stepB_xor, h, BitVec.xor_self]
  have h2 := stepB_zero _ h1
  have h3 := congrArg (fun x => x ^^^ b) h2
  simpa [BitVec.xor_assoc] using h3
theorem iterB_inj : ∀ (n : Nat) (a b : BitVec 32), iterB n a = iterB n b → a = b
  | 0, _, _, h => h
  | n + 1, a, b, h => stepB_inj a b (iterB_inj n _ _ h)
theorem byteB_inj (a b : BitVec 32) (x : UInt8) (h : byteB a x = byteB b x) : a = b := by
  have h2 := iterB_inj 8 _ _ h
  have h3 := congrArg (fun z => z ^^^ BitVec.ofNat 32 x.toNat) h2
  simpa [BitVec.xor_assoc] using h3
theorem byteB_sep (a : BitVec 32) (x y : UInt8) (h : byteB a x = byteB a y) : x = y := by
  have h2 := iterB_inj 8 _ _ h
  have h3 : BitVec.ofNat 32 x.toNat = BitVec.ofNat 32 y.toNat := by
    have := congrArg (fun z => a ^^^ z) h2
    simpa only [xself] using this
  have h4 := congrArg BitVec.toNat h3
  simp only [BitVec.toNat_ofNat] at h4
  have hx := x.toNat_lt
  have hy := y.toNat_lt
  apply UInt8.toNat.inj
  omega
theorem crcB_inj : ∀ (l : List UInt8) (a b : BitVec 32), crcB a l = crcB b l → a = b
  | [], _, _, h => h
  | x :: l, a, b, h => byteB_inj a b x (crcB_inj l _ _ h)
theorem crcB_append (c : BitVec 32) (l m : List UInt8) : crcB c (l ++ m) = crcB (crcB c l) m := by
  unfold crcB
  rw [List.foldl_append]
theorem crcB_cons (c : BitVec 32) (x : UInt8) (m : List UInt8) : crcB c (x :: m) = crcB (byteB c x) m := rfl

/-! The three texts' law. -/
def xor3 : List UInt8 → List UInt8 → List UInt8 → List UInt8
  | a :: l, b :: m, c :: n => (a ^^^ b ^^^ c) :: xor3 l m n
  | _, _, _ => []
theorem ofNat_xor8 (a b : UInt8) : BitVec.ofNat 32 (a ^^^ b).toNat = BitVec.ofNat 32 a.toNat ^^^ BitVec.ofNat 32 b.toNat := by
  rw [UInt8.toNat_xor]
  apply BitVec.eq_of_toNat_eq
  have ha := a.toNat_lt
  have hb := b.toNat_lt
  have hx : a.toNat ^^^ b.toNat < 2 ^ 8 := Nat.xor_lt_two_pow (by omega) (by omega)
  simp only [BitVec.toNat_xor, BitVec.toNat_ofNat]
  rw [Nat.mod_eq_of_lt (by omega), Nat.mod_eq_of_lt (by omega), Nat.mod_eq_of_lt (by omega)]
theorem byteB_xor3 (s t u : BitVec 32) (a b c : UInt8) : byteB (s ^^^ t ^^^ u) (a ^^^ b ^^^ c) = byteB s a ^^^ byteB t b ^^^ byteB u c := by
  unfold byteB
  rw [ofNat_xor8, ofNat_xor8, ← iterB_xor, ← iterB_xor]
  congr 1
  simp only [BitVec.xor_assoc]
  congr 1
  rw [xlc u (BitVec.ofNat 32 a.toNat), xlc t (BitVec.ofNat 32 a.toNat)]
  congr 2
  rw [xlc u (BitVec.ofNat 32 b.toNat)]
theorem crcB_xor3 : ∀ (l m n : List UInt8) (s t u : BitVec 32), l.length = m.length → m.length = n.length →
    crcB (s ^^^ t ^^^ u) (xor3 l m n) = crcB s l ^^^ crcB t m ^^^ crcB u n
  | [], [], [], _, _, _, _, _ => rfl
  | a :: l, b :: m, c :: n, s, t, u, h1, h2 => by
    have h1' : l.length = m.length := by simpa using h1
    have h2' : m.length = n.length := by simpa using h2
    show crcB (byteB (s ^^^ t ^^^ u) (a ^^^ b ^^^ c)) (xor3 l m n) = _
    rw [byteB_xor3]
    exact crcB_xor3 l m n _ _ _ h1' h2'
theorem sumB_xor3 (l m n : List UInt8) (h1 : l.length = m.length) (h2 : m.length = n.length) :
    sumB (xor3 l m n) = sumB l ^^^ sumB m ^^^ sumB n := by
  unfold sumB
  have h := crcB_xor3 l m n ones ones ones h1 h2
  rw [show ones ^^^ ones ^^^ ones = ones by rw [BitVec.xor_self, BitVec.zero_xor]] at h
  rw [h]
  simp only [BitVec.xor_assoc]
  congr 1
  rw [xlc ones (crcB ones m)]
  congr 1
  rw [xself]

/-! A sum's own bytes behind the text. -/
theorem ofNat_join (x m : Nat) (hx : x < 256) (hm : x + 256 * m < 4294967296) : BitVec.ofNat 32 (x + 256 * m) = BitVec.ofNat 32 x ^^^ BitVec.ofNat 32 (256 * m) := by
  apply BitVec.eq_of_toNat_eq
  simp only [BitVec.toNat_xor, BitVec.toNat_ofNat]
  rw [Nat.mod_eq_of_lt (by omega), Nat.mod_eq_of_lt (by omega), Nat.mod_eq_of_lt (by omega)]
  apply Nat.eq_of_testBit_eq
  intro i
  have h1 := Nat.testBit_two_pow_mul_add m (i := 8) (b := x) (by omega) i
  rw [show (2 : Nat) ^ 8 = 256 by rfl] at h1
  rw [Nat.add_comm, h1, Nat.testBit_xor]
  have h2 := Nat.testBit_two_pow_mul_add m (i := 8) (b := 0) (by omega) i
  rw [show (2 : Nat) ^ 8 = 256 by rfl, Nat.add_zero] at h2
  rw [h2]
  by_cases hi : i < 8
  · rw [if_pos hi, if_pos hi]; simp
  · rw [if_neg hi, if_neg hi]
    have : x.testBit i = false := Nat.testBit_lt_two_pow (Nat.lt_of_lt_of_le (show x < 2 ^ 8 by omega) (Nat.pow_le_pow_right (by decide) (by omega)))
    rw [this]; simp
theorem iterB_even : ∀ (n y : Nat) (c : BitVec 32), c.toNat = y * 2 ^ n → (iterB n c).toNat = y
  | 0, y, c, h => by
    have : (iterB 0 c).toNat = c.toNat := rfl
    omega
  | n + 1, y, c, h => by
    have h2 : c.toNat = 2 * (y * 2 ^ n) := by rw [h, Nat.pow_succ]; rw [← Nat.mul_assoc, Nat.mul_comm]
    have h3 := stepB_toNat_even c (by omega)
    exact iterB_even n y (stepB c) (by omega)
theorem iterB_shift (m : Nat) (hm : 256 * m < 4294967296) : iterB 8 (BitVec.ofNat 32 (256 * m)) = BitVec.ofNat 32 m := by
  apply BitVec.eq_of_toNat_eq
  rw [iterB_even 8 m, BitVec.toNat_ofNat, Nat.mod_eq_of_lt (by omega)]
  rw [BitVec.toNat_ofNat, Nat.mod_eq_of_lt (by omega)]
  omega
theorem byteB_part (s : BitVec 32) (x : UInt8) (m : Nat) (hm : x.toNat + 256 * m < 4294967296) :
    iterB 8 (s ^^^ BitVec.ofNat 32 (x.toNat + 256 * m)) = byteB s x ^^^ BitVec.ofNat 32 m := by
  unfold byteB
  rw [ofNat_join _ _ x.toNat_lt hm, ← BitVec.xor_assoc, iterB_xor 8 (s ^^^ _), iterB_shift m (by omega)]
/-- A number's four bytes, the least first. -/
def four (n : Nat) : List UInt8 := [UInt8.ofNat (n % 256), UInt8.ofNat (n / 256 % 256), UInt8.ofNat (n / 65536 % 256), UInt8.ofNat (n / 16777216 % 256)]
theorem toNat8 (n : Nat) : (UInt8.ofNat (n % 256)).toNat = n % 256 := by
  rw [UInt8.toNat_ofNat']; omega
theorem crcB_four (s : BitVec 32) (n : Nat) (hn : n < 4294967296) : crcB s (four n) = iterB 32 (s ^^^ BitVec.ofNat 32 n) := by
  unfold four
  rw [crcB_cons, crcB_cons, crcB_cons, crcB_cons]
  show byteB (byteB (byteB (byteB s _) _) _) _ = _
  rw [show ∀ z, iterB 32 z = iterB 8 (iterB 8 (iterB 8 (iterB 8 z))) from fun _ => rfl]
  have e1 : iterB 8 (s ^^^ BitVec.ofNat 32 n) = byteB s (UInt8.ofNat (n % 256)) ^^^ BitVec.ofNat 32 (n / 256) := by
    rw [← byteB_part s (UInt8.ofNat (n % 256)) (n / 256) (by rw [toNat8]; omega), toNat8]
    congr 3; omega
  rw [e1]
  generalize byteB s (UInt8.ofNat (n % 256)) = s1
  have e2 : iterB 8 (s1 ^^^ BitVec.ofNat 32 (n / 256)) = byteB s1 (UInt8.ofNat (n / 256 % 256)) ^^^ BitVec.ofNat 32 (n / 65536) := by
    rw [← byteB_part s1 (UInt8.ofNat (n / 256 % 256)) (n / 65536) (by rw [toNat8]; omega), toNat8]
    congr 3; omega
  rw [e2]
  generalize byteB s1 (UInt8.ofNat (n / 256 % 256)) = s2
  have e3 : iterB 8 (s2 ^^^ BitVec.ofNat 32 (n / 65536)) = byteB s2 (UInt8.ofNat (n / 65536 % 256)) ^^^ BitVec.ofNat 32 (n / 16777216) := by
    rw [← byteB_part s2 (UInt8.ofNat (n / 65536 % 256)) (n / 16777216) (by rw [toNat8]; omega), toNat8]
    congr 3; omega
  rw [e3]
  generalize byteB s2 (UInt8.ofNat (n / 65536 % 256)) = s3
  have e4 : iterB 8 (s3 ^^^ BitVec.ofNat 32 (n / 16777216)) = byteB s3 (UInt8.ofNat (n / 16777216 % 256)) ^^^ BitVec.ofNat 32 0 := by
    rw [← byteB_part s3 (UInt8.ofNat (n / 16777216 % 256)) 0 (by rw [toNat8]; omega), toNat8]
    congr 3; omega
  rw [e4]
  simp
theorem xor_ones (c : BitVec 32) : c ^^^ BitVec.ofNat 32 (c ^^^ ones).toNat = ones := by
  rw [BitVec.ofNat_toNat, BitVec.setWidth_eq, xself]
theorem sumB_behind (l : List UInt8) : sumB (l ++ four (sumB l).toNat) = sumB (four 0) := by
  unfold sumB
  congr 1
  rw [crcB_append, crcB_four _ _ (BitVec.isLt _), crcB_four _ _ (by decide), xor_ones]
  simp

/-! Noughts. -/
theorem byteB_nought (c : BitVec 32) : byteB c 0 = iterB 8 c := by
  unfold byteB
  simp
theorem crcB_noughts : ∀ (n : Nat) (c : BitVec 32), crcB c (List.replicate n 0) = iterB (8 * n) c
  | 0, _ => rfl
  | n + 1, c => by
    rw [List.replicate_succ, crcB_cons, crcB_noughts n, byteB_nought, ← iterB_add]
    congr 1; omega
def away : Nat → BitVec 32 → Bool
  | 0, _ => true
  | n + 1, c => (iterB 8 c != ones) && away n (iterB 8 c)
theorem away_spec : ∀ (n : Nat) (c : BitVec 32), away n c = true → ∀ d, d < n → iterB (8 * (d + 1)) c ≠ ones
  | 0, _, _, d, hd => absurd hd (Nat.not_lt_zero d)
  | n + 1, c, h, d, hd => by
    have h' : (iterB 8 c != ones) = true ∧ away n (iterB 8 c) = true := by
      have : ((iterB 8 c != ones) && away n (iterB 8 c)) = true := h
      simpa using this
    cases d with
    | zero => exact bne_iff_ne.mp h'.1
    | succ d =>
      have := away_spec n (iterB 8 c) h'.2 d (by omega)
      rw [show 8 * (d + 1 + 1) = 8 + 8 * (d + 1) by omega, iterB_add]
      exact this
theorem away_ones : away 200 ones = true := by decide +kernel
theorem noughts_apart (a b : Nat) (ha : a < 200) (hb : b < 200) : (sumB (List.replicate a 0) = sumB (List.replicate b 0)) ↔ a = b := by
  constructor
  · intro h
    have h1 : iterB (8 * a) ones = iterB (8 * b) ones := by
      unfold sumB at h
      rw [crcB_noughts, crcB_noughts] at h
      have := congrArg (fun z => z ^^^ ones) h
      simpa [BitVec.xor_assoc] using this
    have key : ∀ a b : Nat, a < b → b < 200 → iterB (8 * a) ones = iterB (8 * b) ones → False := by
      intro a b hab hb h
      rw [show 8 * b = 8 * (b - a) + 8 * a by omega, iterB_add] at h
      have h2 := iterB_inj _ _ _ h
      have h3 := away_spec 200 ones away_ones (b - a - 1) (by omega)
      rw [show b - a - 1 + 1 = b - a by omega] at h3
      exact h3 h2.symm
    rcases Nat.lt_trichotomy a b with h2 | h2 | h2
    · exact (key a b h2 hb h1).elim
    · exact h2
    · exact (key b a h2 ha h1.symm).elim
  · rintro rfl; rfl

/-! The numbers of Go. -/
theorem bits_xor32 (a b : BitVec 32) : Go.bits .xor .u32 (a.toNat : Int) (b.toNat : Int) = ((a ^^^ b).toNat : Int) := by
  show IntKind.u32.wrap ((BitVec.ofInt 32 (a.toNat : Int) ^^^ BitVec.ofInt 32 (b.toNat : Int)).toNat : Int) = _
  rw [BitVec.ofInt_natCast, BitVec.ofInt_natCast, BitVec.ofNat_toNat, BitVec.ofNat_toNat, BitVec.setWidth_eq, BitVec.setWidth_eq, IntKind.wrap_u32]
  have := (a ^^^ b).isLt
  omega
theorem bits_xor64 (a b : BitVec 32) : Go.bits .xor .i64 (a.toNat : Int) (b.toNat : Int) = ((a ^^^ b).toNat : Int) := by
  show IntKind.i64.wrap ((BitVec.ofInt 64 (a.toNat : Int) ^^^ BitVec.ofInt 64 (b.toNat : Int)).toNat : Int) = _
  have ha := a.isLt
  have hb := b.isLt
  have hx : a.toNat ^^^ b.toNat < 2 ^ 32 := Nat.xor_lt_two_pow ha hb
  rw [BitVec.ofInt_natCast, BitVec.ofInt_natCast, BitVec.toNat_xor, BitVec.toNat_ofNat, BitVec.toNat_ofNat, BitVec.toNat_xor]
  rw [Nat.mod_eq_of_lt (by omega), Nat.mod_eq_of_lt (by omega), IntKind.wrap_i64]
  omega
theorem bits_and1 (a : BitVec 32) : Go.bits .and .u32 (a.toNat : Int) 1 = ((a.toNat % 2 : Nat) : Int) := by
  show IntKind.u32.wrap ((BitVec.ofInt 32 (a.toNat : Int) &&& 1#32).toNat : Int) = _
  rw [BitVec.ofInt_natCast, BitVec.ofNat_toNat, BitVec.setWidth_eq, BitVec.toNat_and, show (1#32 : BitVec 32).toNat = 1 from rfl, Nat.and_one_is_mod, IntKind.wrap_u32]
  omega
theorem stepB_nat (c : BitVec 32) : (stepB c).toNat = if c.toNat % 2 = 1 then (c.toNat / 2) ^^^ 3988292384 else c.toNat / 2 := by
  by_cases h : c.toNat % 2 = 1
  · rw [if_pos h]
    unfold stepB
    have h0 : c.getLsbD 0 = true := by rw [BitVec.getLsbD, Nat.testBit_zero, h]; rfl
    rw [h0]
    simp [BitVec.toNat_xor, Nat.shiftRight_eq_div_pow]
  · rw [if_neg h]
    exact stepB_toNat_even c (by omega)



/-! The program's sum. -/
theorem sum_l1 (s : ByteArray) (x7 x8 : Int) (r : Int) : ∀ (d : Nat) (c : BitVec 32), d ≤ 8 →
    Ev (fun k => crc_Sum.l0 k s ((iterB d c).toNat : Int) x7 (wrap64 (x8 + 1))) r →
    Ev (fun k => crc_Sum.l1 k s (c.toNat : Int) x7 x8 (8 - (d : Int))) r
  | 0, c, _, h => by
    refine Ev.step (f := fun k => crc_Sum.l0 k s (c.toNat : Int) x7 (wrap64 (x8 + 1))) (fun k => ?_) h
    simp only [crc_Sum.l1]
    rw [if_neg (by omega)]
  | d + 1, c, hd, h => by
    have ih := sum_l1 s x7 x8 r d (stepB c) (by omega) h
    have hw : wrap64 (8 - ((d + 1 : Nat) : Int) + 1) = 8 - (d : Int) := by rw [wrap64_in (by omega) (by omega)]; omega
    refine Ev.step (fun k => ?_) ih
    simp only [crc_Sum.l1]
    rw [if_pos (by omega), hw, bits_and1]
    by_cases hc : c.toNat % 2 = 1
    · rw [if_neg (by omega)]
      have e : Go.bits .xor .u32 ((c.toNat : Int) / 2) 3988292384 = ((stepB c).toNat : Int) := by
        have h1 : (c.toNat : Int) / (2 : Int) = ((c >>> 1).toNat : Int) := by simp [Nat.shiftRight_eq_div_pow]
        have h2 : (3988292384 : Int) = ((3988292384#32 : BitVec 32).toNat : Int) := rfl
        rw [h1, h2, bits_xor32]
        congr 2
        unfold stepB
        have h0 : c.getLsbD 0 = true := by rw [BitVec.getLsbD, Nat.testBit_zero, hc]; rfl
        rw [h0]; rfl
      rw [e]
    · rw [if_pos (by omega)]
      have e : (c.toNat : Int) / (2 : Int) = ((stepB c).toNat : Int) := by rw [stepB_toNat_even c (by omega)]; omega
      rw [e]

theorem byte_u32 (x : UInt8) : (x.toNat : Int) % 4294967296 = ((BitVec.ofNat 32 x.toNat).toNat : Int) := by
  have := x.toNat_lt
  rw [BitVec.toNat_ofNat, Nat.mod_eq_of_lt (by omega)]
  omega
theorem byte_i64 (x : UInt8) : wrap64 (x.toNat : Int) = ((BitVec.ofNat 32 x.toNat).toNat : Int) := by
  have := x.toNat_lt
  rw [BitVec.toNat_ofNat, Nat.mod_eq_of_lt (by omega), wrap64_in (by omega) (by omega)]

theorem sum_l0 (s : ByteArray) (hs : s.size ≤ 9223372036854775807) : ∀ (d i : Nat) (c : BitVec 32), i + d = s.size →
    Ev (fun k => crc_Sum.l0 k s (c.toNat : Int) (s.size : Int) (i : Int)) ((crcB c (s.data.toList.drop i) ^^^ ones).toNat : Int)
  | 0, i, c, hi => by
    have e : s.data.toList.drop i = [] := List.drop_eq_nil_of_le (by rw [data_length]; omega)
    rw [e]
    refine Ev.step (f := fun _ => some ((crcB c [] ^^^ ones).toNat : Int)) (fun k => ?_) (Ev.now _)
    simp only [crc_Sum.l0]
    rw [if_neg (by omega)]
    have h2 : (4294967295 : Int) = (ones.toNat : Int) := rfl
    rw [h2, bits_xor32, BitVec.xor_comm]
    have := (c ^^^ ones).isLt
    rw [wrap64_in (by omega) (by omega)]
    rfl
  | d + 1, i, c, hi => by
    obtain ⟨x, rest, e1, e2, e3⟩ := bt_get s i (by omega)
    have ih := sum_l0 s hs d (i + 1) (byteB c x) (by omega)
    rw [e1, crcB_cons, ← e2]
    refine Ev.step (f := fun k => crc_Sum.l1 k s ((c ^^^ BitVec.ofNat 32 x.toNat).toNat : Int) (s.size : Int) (i : Int) (8 - ((8 : Nat) : Int))) (fun k => ?_) (sum_l1 s _ _ _ 8 _ (by omega) ?_)
    · simp only [crc_Sum.l0]
      rw [if_pos (by omega), if_pos (by omega), if_pos (by omega), e3, byte_u32, bits_xor32]
      rfl
    · have : wrap64 ((i : Int) + 1) = ((i + 1 : Nat) : Int) := by rw [wrap64_in (by omega) (by omega)]; omega
      rw [this]
      exact ih
theorem sum_ev (s : ByteArray) (hs : s.size ≤ 9223372036854775807) : Ev (fun k => crc_Sum.f k s) ((sumB s.data.toList).toNat : Int) := by
  have h := sum_l0 s hs s.size 0 ones (by omega)
  rw [List.drop_zero] at h
  exact Ev.congr (fun k => rfl) h

/-! The document's sum. -/
theorem rstep (c : BitVec 32) : clinkerref01_step.f (c.toNat : Int) = some ((stepB c).toNat : Int) := by
  unfold clinkerref01_step.f
  have e1 : Int.tmod (c.toNat : Int) 2 = ((c.toNat % 2 : Nat) : Int) := by
    rw [Int.tmod_eq_emod_of_nonneg (by omega)]; omega
  have e2 : wrap64 (Int.tdiv (c.toNat : Int) 2) = ((c >>> 1).toNat : Int) := by
    have := c.isLt
    rw [Int.tdiv_eq_ediv_of_nonneg (by omega), wrap64_in (by omega) (by omega)]
    simp [Nat.shiftRight_eq_div_pow]
  rw [e1, e2]
  by_cases hc : c.toNat % 2 = 1
  · rw [if_pos (by omega)]
    have h2 : (3988292384 : Int) = ((3988292384#32 : BitVec 32).toNat : Int) := rfl
    rw [h2, bits_xor64]
    unfold stepB
    have h0 : c.getLsbD 0 = true := by rw [BitVec.getLsbD, Nat.testBit_zero, hc]; rfl
    rw [h0]; rfl
  · rw [if_neg (by omega), stepB_toNat_even c (by omega)]
    simp [Nat.shiftRight_eq_div_pow]
theorem rsum_l1 (s : ByteArray) (x4 : Int) (r : Int) : ∀ (d : Nat) (c : BitVec 32), d ≤ 8 →
    Ev (fun k => clinkerref01_Sum.l0 k s ((iterB d c).toNat : Int) (wrap64 (x4 + 1))) r →
    Ev (fun k => clinkerref01_Sum.l1 k s (c.toNat : Int) x4 (8 - (d : Int))) r
  | 0, c, _, h => by
    refine Ev.step (f := fun k => clinkerref01_Sum.l0 k s (c.toNat : Int) (wrap64 (x4 + 1))) (fun k => ?_) h
    simp only [clinkerref01_Sum.l1]
    rw [if_neg (by omega)]
  | d + 1, c, hd, h => by
    have ih := rsum_l1 s x4 r d (stepB c) (by omega) h
    have hw : wrap64 (8 - ((d + 1 : Nat) : Int) + 1) = 8 - (d : Int) := by rw [wrap64_in (by omega) (by omega)]; omega
    refine Ev.step (fun k => ?_) ih
    simp only [clinkerref01_Sum.l1]
    rw [if_pos (by omega), hw, rstep]
    rfl
theorem rsum_l0 (s : ByteArray) (hs : s.size ≤ 9223372036854775807) : ∀ (d i : Nat) (c : BitVec 32), i + d = s.size →
    Ev (fun k => clinkerref01_Sum.l0 k s (c.toNat : Int) (i : Int)) ((crcB c (s.data.toList.drop i) ^^^ ones).toNat : Int)
  | 0, i, c, hi => by
    have e : s.data.toList.drop i = [] := List.drop_eq_nil_of_le (by rw [data_length]; omega)
    rw [e]
    refine Ev.step (f := fun _ => some ((crcB c [] ^^^ ones).toNat : Int)) (fun k => ?_) (Ev.now _)
    simp only [clinkerref01_Sum.l0]
    rw [if_neg (by omega)]
    have h2 : (4294967295 : Int) = (ones.toNat : Int) := rfl
    rw [h2, bits_xor64]
    rfl
  | d + 1, i, c, hi => by
    obtain ⟨x, rest, e1, e2, e3⟩ := bt_get s i (by omega)
    have ih := rsum_l0 s hs d (i + 1) (byteB c x) (by omega)
    rw [e1, crcB_cons, ← e2]
    refine Ev.step (f := fun k => clinkerref01_Sum.l1 k s ((c ^^^ BitVec.ofNat 32 x.toNat).toNat : Int) (i : Int) (8 - ((8 : Nat) : Int))) (fun k => ?_) (rsum_l1 s _ _ 8 _ (by omega) ?_)
    · simp only [clinkerref01_Sum.l0]
      rw [if_pos (by omega), if_pos (by omega), e3, byte_i64, bits_xor64]
      rfl
    · have : wrap64 ((i : Int) + 1) = ((i + 1 : Nat) : Int) := by rw [wrap64_in (by omega) (by omega)]; omega
      rw [this]
      exact ih
theorem rsum_ev (s : ByteArray) (hs : s.size ≤ 9223372036854775807) : Ev (fun k => clinkerref01_Sum.f k s) ((sumB s.data.toList).toNat : Int) := by
  have h := rsum_l0 s hs s.size 0 ones (by omega)
  rw [List.drop_zero] at h
  exact Ev.congr (fun k => rfl) h



theorem rd_nat (l : List Int) (i : Nat) : rd l (i : Int) = l.getD i 0 := rfl
/-! Which keys may be -/
theorem any_take_end (p : Int → Bool) (l : List Int) (h : ∀ i, i < l.length → p (l.getD i 0) = false) : l.any p = false := by
  rw [Bool.eq_false_iff]
  intro h2
  obtain ⟨x, hx, hp⟩ := List.any_eq_true.mp h2
  obtain ⟨i, hi, rfl⟩ := List.mem_iff_getElem.mp hx
  have := h i hi
  rw [List.getD_eq_getElem?_getD, List.getElem?_eq_getElem hi] at this
  simp only [Option.getD_some] at this
  rw [this] at hp
  cases hp
theorem noRep_good (l : List Int) (n : Nat) (h : ∀ j, 1 ≤ j → j < n → l.getD (j - 1) 0 ≠ l.getD j 0) : noRep l n = true := by
  induction n with
  | zero => rfl
  | succ n ih =>
    rw [noRep, ih (fun j h1 h2 => h j h1 (by omega)), Bool.true_and]
    by_cases h0 : n = 0
    · subst h0; rfl
    · have : (l.getD n 0 != l.getD (n - 1) 0) = true := bne_iff_ne.mpr (fun e => h n (by omega) (by omega) e.symm)
      rw [this, Bool.or_true]
theorem noRep_bad (l : List Int) {j n : Nat} (hj : 1 ≤ j) (hn : j < n) (hb : l.getD j 0 = l.getD (j - 1) 0) : noRep l n = false := by
  refine noRep_le l (show j + 1 ≤ n by omega) ?_
  rw [noRep_step l j hj]
  have : (l.getD j 0 != l.getD (j - 1) 0) = false := by rw [hb]; simp
  rw [this, Bool.and_false]
theorem keysV_odd {l : List Int} {i : Nat} (hi : i < l.length) (h : oddK (l.getD i 0) = true) : keysV l = false := by
  unfold keysV
  rw [oddK_hit l i hi h]
  simp
theorem keysV_low {l : List Int} {i : Nat} (h1 : 1 ≤ i) (hi : i < l.length) (h : l.getD i 0 ≤ l.getD (i - 1) 0) : keysV l = false := by
  unfold keysV
  by_cases he : l.getD i 0 = l.getD (i - 1) 0
  · rw [noRep_bad l h1 hi he]; simp
  · rw [srt_bad l h1 hi (by omega)]; simp
theorem rkeys_l0 (l : List Int) (hl : l.length ≤ 9223372036854775806) : ∀ (d i : Nat), i + d = l.length → (∀ j, j < i → oddK (l.getD j 0) = false) → (∀ j, 1 ≤ j → j < i → l.getD (j - 1) 0 < l.getD j 0) →
    Ev (fun k => clinkerref03_keys.l0 k l (i : Int)) (keysV l)
  | 0, i, hi, h1, h2 => by
    refine Ev.step (fun k => clinkerref03_keys.l0.eq_2 ..) (Ev.ite_neg (by omega) ?_)
    have e1 : l.any oddK = false := any_take_end oddK l (fun j hj => h1 j (by omega))
    have e2 : srt l l.length = true := srt_good l l.length (fun j hj1 hj2 => by have := h2 j hj1 (by omega); omega)
    have e3 : noRep l l.length = true := noRep_good l l.length (fun j hj1 hj2 => by have := h2 j hj1 (by omega); omega)
    unfold keysV
    rw [e1, e2, e3]
    by_cases hp : (l.length : Int) > 0
    · refine Ev.ite_pos hp ?_
      rw [decide_eq_true (show 0 < (l.length : Int) by omega)]
      simp only [Bool.true_and, Bool.not_false, Bool.and_true]
      exact Ev.now _
    · refine Ev.ite_neg hp ?_
      rw [decide_eq_false (show ¬ 0 < (l.length : Int) by omega)]
      simp only [Bool.false_and]
      exact Ev.now _
  | d + 1, i, hi, h1, h2 => by
    refine Ev.step (fun k => clinkerref03_keys.l0.eq_2 ..) (Ev.ite_pos (by omega) (Ev.ite_pos (by omega) ?_))
    rw [rd_nat]
    by_cases c1 : l.getD i 0 < 0
    · refine Ev.ite_pos c1 ?_
      rw [keysV_odd (by omega) (i := i) (by unfold oddK; rw [decide_eq_true c1]; rfl)]
      exact Ev.now _
    refine Ev.ite_neg c1 ?_
    by_cases c2 : l.getD i 0 ≥ 64
    · refine Ev.ite_pos c2 ?_
      rw [keysV_odd (by omega) (i := i) (by unfold oddK; rw [decide_eq_true (show 64 ≤ l.getD i 0 from c2), Bool.or_true])]
      exact Ev.now _
    refine Ev.ite_neg c2 ?_
    have hodd : oddK (l.getD i 0) = false := by unfold oddK; rw [decide_eq_false c1, decide_eq_false (show ¬ 64 ≤ l.getD i 0 from c2)]; rfl
    have h1' : ∀ j, j < i + 1 → oddK (l.getD j 0) = false := fun j hj => by
      by_cases h : j = i
      · rw [h]; exact hodd
      · exact h1 j (by omega)
    have e4 : wrap64 ((i : Int) + 1) = ((i + 1 : Nat) : Int) := by rw [wrap64_in (by omega) (by omega)]; omega
    rw [e4]
    by_cases c3 : (i : Int) > 0
    · refine Ev.ite_pos c3 ?_
      have e5 : wrap64 ((i : Int) - 1) = ((i - 1 : Nat) : Int) := by rw [wrap64_in (by omega) (by omega)]; omega
      rw [e5, rd_nat]
      refine Ev.ite_pos (by omega) (Ev.ite_pos (by omega) ?_)
      by_cases c4 : l.getD i 0 ≤ l.getD (i - 1) 0
      · refine Ev.ite_pos c4 ?_
        rw [keysV_low (by omega) (by omega) c4]
        exact Ev.now _
      · refine Ev.ite_neg c4 (rkeys_l0 l hl d (i + 1) (by omega) h1' (fun j hj1 hj2 => ?_))
        by_cases h : j = i
        · rw [h]; omega
        · exact h2 j hj1 (by omega)
    · refine Ev.ite_neg c3 (rkeys_l0 l hl d (i + 1) (by omega) h1' (fun j hj1 hj2 => by omega))
theorem rkeys_ev (l : List Int) (hl : l.length ≤ 9223372036854775806) : Ev (fun k => clinkerref03_keys.f k l) (keysV l) :=
  rkeys_l0 l hl l.length 0 (by omega) (fun j hj => by omega) (fun j h1 h2 => by omega)

/-! Which records may be -/
def rightEnd (a : Int) (l m : List Int) : Bool := if a = 2 then ((m.length : Int) == (l.length : Int)) else false
theorem rright_l0 (a b : Int) (l m : List Int) (hm : m.length ≤ 9223372036854775806) : ∀ (d i : Nat), i + d = m.length → (∀ j, j < i → oddV (m.getD j 0) = false) →
    Ev (fun k => clinkerref03_Right.l0 k (i : Int) a b l m) (if m.any oddV = true then false else rightEnd a l m)
  | 0, i, hi, h1 => by
    refine Ev.step (fun k => clinkerref03_Right.l0.eq_2 ..) (Ev.ite_neg (by omega) ?_)
    rw [any_take_end oddV m (fun j hj => h1 j (by omega))]
    show Ev _ (rightEnd a l m)
    unfold rightEnd
    by_cases h2 : a = 2
    · refine Ev.ite_pos h2 ?_
      rw [if_pos h2]
      exact Ev.now _
    · refine Ev.ite_neg h2 ?_
      rw [if_neg h2]
      exact Ev.now _
  | d + 1, i, hi, h1 => by
    refine Ev.step (fun k => clinkerref03_Right.l0.eq_2 ..) (Ev.ite_pos (by omega) (Ev.ite_pos (by omega) ?_))
    rw [rd_nat]
    by_cases c1 : m.getD i 0 < -1
    · refine Ev.ite_pos c1 ?_
      rw [oddV_hit m i (by omega) (by unfold oddV; rw [decide_eq_true c1]; rfl), if_pos rfl]
      exact Ev.now _
    refine Ev.ite_neg c1 ?_
    by_cases c2 : m.getD i 0 ≥ 512
    · refine Ev.ite_pos c2 ?_
      rw [oddV_hit m i (by omega) (by unfold oddV; rw [decide_eq_true (show 512 ≤ m.getD i 0 from c2), Bool.or_true]), if_pos rfl]
      exact Ev.now _
    refine Ev.ite_neg c2 ?_
    have e4 : wrap64 ((i : Int) + 1) = ((i + 1 : Nat) : Int) := by rw [wrap64_in (by omega) (by omega)]; omega
    rw [e4]
    refine rright_l0 a b l m hm d (i + 1) (by omega) (fun j hj => ?_)
    by_cases h : j = i
    · rw [h]; unfold oddV; rw [decide_eq_false c1, decide_eq_false (show ¬ 512 ≤ m.getD i 0 from c2)]; rfl
    · exact h1 j (by omega)
theorem rright_ev (a b : Int) (l m : List Int) (hl : l.length ≤ 9223372036854775806) (hm : m.length ≤ 9223372036854775806) : Ev (fun k => clinkerref03_Right.f k a b l m) (rightV a b l m) := by
  unfold clinkerref03_Right.f rightV
  by_cases c1 : b < 0
  · rw [if_pos c1]
    exact Ev.ite_pos c1 (Ev.step (fun k => clinkerref03_Right.j0.eq_2 ..) (Ev.ite_pos rfl (Ev.now _)))
  rw [if_neg c1]
  refine Ev.ite_neg c1 ?_
  by_cases c2 : b > 1099511627776
  · rw [if_pos (show 1099511627776 < b from c2)]
    exact Ev.ite_pos c2 (Ev.step (fun k => clinkerref03_Right.j0.eq_2 ..) (Ev.ite_pos rfl (Ev.now _)))
  rw [if_neg (show ¬ 1099511627776 < b from c2)]
  refine Ev.ite_neg c2 (Ev.bind (rkeys_ev l hl) ?_)
  refine Ev.step (fun k => clinkerref03_Right.j0.eq_2 ..) ?_
  cases hk : keysV l with
  | false =>
    rw [if_pos rfl]
    exact Ev.ite_pos rfl (Ev.now _)
  | true =>
    rw [if_neg (by simp)]
    refine Ev.ite_neg (by simp) ?_
    by_cases h1 : a = 1
    · refine Ev.ite_pos h1 ?_
      have : (if m.any oddV = true then false else if a = 1 then ((m.length : Int) == 0) else if a = 2 then ((m.length : Int) == (l.length : Int)) else false) = ((m.length : Int) == 0) := by
        rw [if_pos h1]
        by_cases h2 : m.any oddV = true
        · rw [if_pos h2]
          have h3 : m ≠ [] := by intro e; rw [e] at h2; simp at h2
          have h4 : 0 < m.length := List.length_pos_iff.mpr h3
          exact (beq_eq_false_iff_ne.mpr (by omega)).symm
        · rw [if_neg h2]
      rw [this]
      exact Ev.now _
    · refine Ev.ite_neg h1 ?_
      rw [if_neg h1]
      exact rright_l0 a b l m hm m.length 0 (by omega) (fun j hj => by omega)
theorem right_ev (a b : Int) (l m : List Int) (hl : l.length ≤ 17592186044415) : tag_Right.f a b l m = some (rightV a b l m) := by
  unfold tag_Right.f
  rw [if_pos hl]

/-! The tag -/
theorem right_facts {a b : Int} {l m : List Int} (h : rightV a b l m = true) : (a = 1 ∨ a = 2) ∧ 0 ≤ b ∧ b ≤ 1099511627776 ∧ l.length ≤ 8 ∧ m.length ≤ 8 ∧ (∀ x ∈ l, 0 ≤ x ∧ x < 64) ∧ (∀ x ∈ m, -1 ≤ x ∧ x < 512) := by
  unfold rightV at h
  by_cases c1 : b < 0
  · rw [if_pos c1] at h; cases h
  rw [if_neg c1] at h
  by_cases c2 : 1099511627776 < b
  · rw [if_pos c2] at h; cases h
  rw [if_neg c2] at h
  cases hk : keysV l with
  | false => rw [hk, if_pos rfl] at h; cases h
  | true =>
    rw [hk, if_neg (by simp)] at h
    by_cases hv : m.any oddV = true
    · rw [if_pos hv] at h; cases h
    rw [if_neg hv] at h
    have hv : m.any oddV = false := by simpa using hv
    unfold keysV at hk
    rw [Bool.and_eq_true, Bool.and_eq_true, Bool.and_eq_true, decide_eq_true_iff, decide_eq_true_iff] at hk
    obtain ⟨⟨⟨k1, k2⟩, k3⟩, _⟩ := hk
    have k3 : l.any oddK = false := by simpa using k3
    have hl : ∀ x ∈ l, 0 ≤ x ∧ x < 64 := fun x hx => by
      have := List.any_eq_false.mp k3 x hx
      unfold oddK at this
      rw [Bool.or_eq_true, decide_eq_true_iff, decide_eq_true_iff] at this
      omega
    have hm : ∀ x ∈ m, -1 ≤ x ∧ x < 512 := fun x hx => by
      have := List.any_eq_false.mp hv x hx
      unfold oddV at this
      rw [Bool.or_eq_true, decide_eq_true_iff, decide_eq_true_iff] at this
      omega
    by_cases h1 : a = 1
    · rw [if_pos h1] at h
      have := beq_iff_eq.mp h
      exact ⟨.inl h1, by omega, by omega, by omega, by omega, hl, hm⟩
    · rw [if_neg h1] at h
      by_cases h2 : a = 2
      · rw [if_pos h2] at h
        have := beq_iff_eq.mp h
        exact ⟨.inr h2, by omega, by omega, by omega, by omega, hl, hm⟩
      · rw [if_neg h2] at h; cases h
/-- Numbers from nought on, as such. -/
def ns (l : List Int) : List Nat := l.map Int.toNat
theorem ns_back {l : List Int} (h : ∀ x ∈ l, 0 ≤ x) : nats (ns l) = l := by
  induction l with
  | nil => rfl
  | cons x l ih =>
    have h1 := ih (fun y hy => h y (by simp [hy]))
    have h2 := h x (by simp)
    unfold nats ns at h1 ⊢
    simp only [List.map_cons]
    rw [h1, show ((x.toNat : Nat) : Int) = x by omega]
theorem ns_length (l : List Int) : (ns l).length = l.length := by unfold ns; rw [List.length_map]
theorem ns_top {l : List Int} (h : ∀ x ∈ l, x ≤ 1099511627776) : ∀ x ∈ ns l, x ≤ top := by
  intro x hx
  obtain ⟨y, hy, rfl⟩ := List.mem_map.mp hx
  have := h y hy
  unfold top
  omega
theorem packL_len (l : List Nat) (h : ∀ x ∈ l, x ≤ top) (hl : l.length ≤ top) : (packL l).length ≤ 6 + 6 * l.length := by
  have key : ∀ n, n ≤ top → (digs n).length ≤ 6 := fun n hn => by
    have := putI_len (n : Int)
    rwa [putI_nat n hn] at this
  have h1 : (flat l).length ≤ 6 * l.length := by
    clear hl
    induction l with
    | nil => simp [flat]
    | cons x l ih =>
      rw [flat_cons, List.length_append, List.length_cons]
      have := ih (fun y hy => h y (by simp [hy]))
      have := key x (h x (by simp))
      omega
  unfold packL
  rw [List.length_append]
  have := key _ hl
  omega
theorem append_ofL (l : List UInt8) (s : ByteArray) : ofL l ++ s = ofL (l ++ s.data.toList) := by
  conv => lhs; rw [← ofL_of s]
  rw [ofL_append]
/-- A record's bytes, without the sum. -/
def bodyL (a b : Int) (l m : List Int) : List UInt8 := packL (ns [a, b]) ++ packL (ns l) ++ packL (ns (addAll 1 m))
/-- A record's tag. -/
def tagL (a b : Int) (l m : List Int) (d : List UInt8) : List UInt8 := bodyL a b l m ++ four (sumB (bodyL a b l m ++ d)).toNat
def encV (a b : Int) (l m : List Int) (d : ByteArray) : ByteArray × Int :=
  if rightV a b l m = true then (if (d.size : Int) > 16 then ((⟨#[]⟩ : ByteArray), 1) else (ofL (tagL a b l m d.data.toList), 0)) else ((⟨#[]⟩ : ByteArray), 1)
theorem addAll_in {m : List Int} (h : ∀ x ∈ m, -1 ≤ x ∧ x < 512) : ∀ x ∈ addAll 1 m, 0 ≤ x ∧ x ≤ 512 := by
  intro x hx
  obtain ⟨y, hy, rfl⟩ := List.mem_map.mp hx
  have := h y hy
  rw [wrap64_in (by omega) (by omega)]
  omega
theorem addAll_length (d : Int) (m : List Int) : (addAll d m).length = m.length := by unfold addAll; rw [List.length_map]
theorem body_len {a b : Int} {l m : List Int} (h : rightV a b l m = true) : (bodyL a b l m).length ≤ 200 := by
  obtain ⟨h1, h2, h3, h4, h5, h6, h7⟩ := right_facts h
  have g7 := addAll_in h7
  have e1 := packL_len (ns [a, b]) (ns_top (by intro x hx; simp at hx; omega)) (by unfold top; rw [ns_length]; simp)
  have e2 := packL_len (ns l) (ns_top (fun x hx => by have := h6 x hx; omega)) (by unfold top; rw [ns_length]; omega)
  have e3 := packL_len (ns (addAll 1 m)) (ns_top (fun x hx => by have := g7 x hx; omega)) (by unfold top; rw [ns_length, addAll_length]; omega)
  rw [ns_length] at e1 e2 e3
  rw [addAll_length] at e3
  unfold bodyL
  rw [List.length_append, List.length_append]
  simp at e1
  omega
theorem four_len (n : Nat) : (four n).length = 4 := rfl
theorem bytes_ev (n : Nat) (hn : n < 4294967296) : crc_Bytes.f (n : Int) = some (ofL (four n)) := by
  unfold crc_Bytes.f
  rw [if_pos (by omega)]
  congr 1
  refine bytes_ext ?_
  rw [strOfNums_toList]
  unfold four
  simp only [List.map_cons, List.map_nil]
  rw [show ((n : Int) % 256).toNat = n % 256 by omega, show ((n : Int) / 256 % 256).toNat = n / 256 % 256 by omega, show ((n : Int) / 65536 % 256).toNat = n / 65536 % 256 by omega, show ((n : Int) / 16777216).toNat = n / 16777216 % 256 by omega]
  rfl
theorem rbytes_ev (n : Nat) (hn : n < 4294967296) : clinkerref01_Bytes.f (n : Int) = some (ofL (four n)) := by
  rw [← bytes_ev n hn]
  unfold clinkerref01_Bytes.f crc_Bytes.f
  rw [if_neg (by omega), if_neg (by omega), if_pos (by omega)]
  rw [Int.tdiv_eq_ediv_of_nonneg (by omega), Int.tdiv_eq_ediv_of_nonneg (by omega), Int.tdiv_eq_ediv_of_nonneg (by omega)]
  rw [wrap64_in (by omega) (by omega), wrap64_in (by omega) (by omega), wrap64_in (by omega) (by omega)]
  rw [Int.tmod_eq_emod_of_nonneg (by omega), Int.tmod_eq_emod_of_nonneg (by omega), Int.tmod_eq_emod_of_nonneg (by omega)]
  congr 2
  congr 1
  · omega
  congr 1
  · omega
  congr 1
  · omega
  congr 1
  omega
theorem pack_ns {l : List Int} (h : ∀ x ∈ l, 0 ≤ x ∧ x ≤ 1099511627776) (hl : l.length ≤ 100) : Ev (fun k => pack_Pack.f k l) (ofL (packL (ns l)), 0) := by
  have := pack_nats (ns l) (ns_top (fun x hx => (h x hx).2)) (by rw [ns_length]; unfold top; omega)
  rw [ns_back (fun x hx => (h x hx).1)] at this
  exact this
theorem rpack_ns {l : List Int} (h : ∀ x ∈ l, 0 ≤ x ∧ x ≤ 1099511627776) (hl : l.length ≤ 100) : Ev (fun k => clinkerref02_Pack.f k l) (ofL (packL (ns l)), 0) := by
  have h1 := rpack_ev (nats (ns l)) (by rw [nats_length, ns_length]; omega)
  rw [nats_length, putI_nat _ (show (ns l).length ≤ top by rw [ns_length]; unfold top; omega), packS_nats (ns l) _ (ns_top (fun x hx => (h x hx).2)), ns_back (fun x hx => (h x hx).1)] at h1
  exact h1
theorem sumB_lt (l : List UInt8) : (sumB l).toNat < 4294967296 := (sumB l).isLt
theorem nil_ofL (l : List UInt8) : (⟨#[]⟩ : ByteArray) ++ ofL l = ofL l := ofL_append [] l
theorem enc_ev (a b : Int) (l m : List Int) (d : ByteArray) (hl : l.length ≤ 17592186044415) (hd : d.size ≤ 140737488351232) : Ev (fun k => tag_Encode.f k a b l m d) (encV a b l m d) := by
  unfold tag_Encode.f encV
  rw [right_ev a b l m hl]
  refine Ev.pure_ ?_
  cases hr : rightV a b l m with
  | false => exact Ev.ite_neg (by simp) (Ev.now _)
  | true =>
    refine Ev.ite_pos rfl ?_
    show Ev _ (if (d.size : Int) > 16 then ((⟨#[]⟩ : ByteArray), 1) else (ofL (tagL a b l m d.data.toList), 0))
    by_cases hs : (d.size : Int) > 16
    · rw [if_pos hs]
      exact Ev.ite_pos hs (Ev.now _)
    rw [if_neg hs]
    refine Ev.ite_neg hs ?_
    obtain ⟨h1, h2, h3, h4, h5, h6, h7⟩ := right_facts hr
    have g7 := addAll_in h7
    have hb := body_len hr
    have hmv : tag_moved.f m 1 = some (addAll 1 m) := by unfold tag_moved.f; rw [if_pos (by omega)]
    rw [hmv]
    refine Ev.pure_ ?_
    unfold tag_Encode.e0 tag_Encode.e1 tag_Encode.e2 tag_Encode.e3
    refine Ev.bind (pack_ns (l := [a, b]) (by intro x hx; simp at hx; omega) (by simp)) (Ev.ite_pos rfl ?_)
    have z1 : ((⟨#[]⟩ : ByteArray)).size = 0 := rfl
    unfold bodyL at hb
    rw [List.length_append, List.length_append] at hb
    dsimp only
    refine Ev.ite_pos (by rw [ofL_size, z1]; omega) ?_
    refine Ev.bind (pack_ns (l := l) (fun x hx => by have := h6 x hx; omega) (by omega)) (Ev.ite_pos rfl ?_)
    dsimp only
    rw [nil_ofL]
    refine Ev.ite_pos (by rw [ofL_size, ofL_size]; omega) ?_
    refine Ev.bind (pack_ns (l := addAll 1 m) (fun x hx => by have := g7 x hx; omega) (by rw [addAll_length]; omega)) (Ev.ite_pos rfl ?_)
    dsimp only
    rw [ofL_append]
    refine Ev.ite_pos (by rw [ofL_size, ofL_size, List.length_append]; omega) ?_
    rw [ofL_append]
    refine Ev.ite_pos (by rw [ofL_size, List.length_append, List.length_append]; omega) ?_
    rw [append_ofL]
    have hsum := sum_ev (ofL (packL (ns [a, b]) ++ packL (ns l) ++ packL (ns (addAll 1 m)) ++ d.data.toList)) (by rw [ofL_size, List.length_append, List.length_append, List.length_append, data_length]; omega)
    rw [ofL_list] at hsum
    refine Ev.bind hsum ?_
    rw [bytes_ev _ (sumB_lt _)]
    refine Ev.pure_ ?_
    refine Ev.ite_pos (by rw [ofL_size, ofL_size, four_len, List.length_append, List.length_append]; omega) ?_
    rw [ofL_append]
    exact Ev.now _
theorem rbody_l0 (h3 : List Int) (a b : Int) (l m : List Int) (r : ByteArray) (hm : m.length ≤ 100) (hend : Ev (fun k => (clinkerref02_Pack.f k h3).bind fun bt194 => ((clinkerref02_Pack.f k l).bind fun bt196 => ((clinkerref02_Pack.f k (addAll 1 m)).bind fun bt198 => (if bt194.1.size + bt196.1.size ≤ 9223372036854775807 then (if (bt194.1 ++ bt196.1).size + bt198.1.size ≤ 9223372036854775807 then (some ((bt194.1 ++ bt196.1) ++ bt198.1)) else (none)) else (none))))) r) :
    ∀ (d i : Nat), i + d = m.length → Ev (fun k => clinkerref03_body.l0 k h3 (addAll 1 (m.take i)) (i : Int) a b l m) r
  | 0, i, hi => by
    refine Ev.step (fun k => clinkerref03_body.l0.eq_2 ..) (Ev.ite_neg (by omega) ?_)
    rw [List.take_of_length_le (by omega)]
    exact hend
  | d + 1, i, hi => by
    refine Ev.step (fun k => clinkerref03_body.l0.eq_2 ..) (Ev.ite_pos (by omega) (Ev.ite_pos (by omega) (Ev.ite_pos (by rw [addAll_length, List.length_take]; omega) ?_)))
    rw [rd_nat, show wrap64 ((i : Int) + 1) = ((i + 1 : Nat) : Int) by rw [wrap64_in (by omega) (by omega)]; omega]
    have e : addAll 1 (m.take i) ++ [wrap64 (m.getD i 0 + 1)] = addAll 1 (m.take (i + 1)) := by
      unfold addAll
      rw [List.take_succ_eq_append_getElem (show i < m.length by omega), List.map_append, List.getD_eq_getElem?_getD, List.getElem?_eq_getElem (show i < m.length by omega)]
      rfl
    rw [e]
    exact rbody_l0 h3 a b l m r hm hend d (i + 1) (by omega)
theorem renc_ev (a b : Int) (l m : List Int) (d : ByteArray) (hl : l.length ≤ 9223372036854775806) (hm : m.length ≤ 9223372036854775806) (hd : d.size ≤ 140737488351232) : Ev (fun k => clinkerref03_Encode.f k a b l m d) (encV a b l m d) := by
  unfold clinkerref03_Encode.f encV
  refine Ev.bind (rright_ev a b l m hl hm) ?_
  cases hr : rightV a b l m with
  | false => exact Ev.ite_neg (by simp) (Ev.step (fun k => clinkerref03_Encode.j0.eq_2 ..) (Ev.ite_pos rfl (Ev.now _)))
  | true =>
    refine Ev.ite_pos rfl (Ev.step (fun k => clinkerref03_Encode.j0.eq_2 ..) ?_)
    show Ev _ (if (d.size : Int) > 16 then ((⟨#[]⟩ : ByteArray), 1) else (ofL (tagL a b l m d.data.toList), 0))
    by_cases hs : (d.size : Int) > 16
    · rw [if_pos hs]
      exact Ev.ite_pos (decide_eq_true hs) (Ev.now _)
    rw [if_neg hs]
    refine Ev.ite_neg (by rw [decide_eq_false hs]; simp) ?_
    obtain ⟨h1, h2, h3, h4, h5, h6, h7⟩ := right_facts hr
    have g7 := addAll_in h7
    have hb := body_len hr
    have hbody : Ev (fun k => clinkerref03_body.f k a b l m) (ofL (bodyL a b l m)) := by
      refine rbody_l0 [a, b] a b l m _ (by omega) ?_ m.length 0 (by omega)
      unfold bodyL at hb ⊢
      rw [List.length_append, List.length_append] at hb
      refine Ev.bind (rpack_ns (l := [a, b]) (by intro x hx; simp at hx; omega) (by simp)) ?_
      refine Ev.bind (rpack_ns (l := l) (fun x hx => by have := h6 x hx; omega) (by omega)) ?_
      refine Ev.bind (rpack_ns (l := addAll 1 m) (fun x hx => by have := g7 x hx; omega) (by rw [addAll_length]; omega)) ?_
      dsimp only
      refine Ev.ite_pos (by rw [ofL_size, ofL_size]; omega) ?_
      rw [ofL_append]
      refine Ev.ite_pos (by rw [ofL_size, ofL_size, List.length_append]; omega) ?_
      rw [ofL_append]
      exact Ev.now _
    refine Ev.bind hbody ?_
    refine Ev.ite_pos (by rw [ofL_size]; omega) ?_
    rw [append_ofL]
    have hsum := rsum_ev (ofL (bodyL a b l m ++ d.data.toList)) (by rw [ofL_size, List.length_append, data_length]; omega)
    rw [ofL_list] at hsum
    refine Ev.bind hsum ?_
    rw [rbytes_ev _ (sumB_lt _)]
    refine Ev.pure_ ?_
    refine Ev.ite_pos (by rw [ofL_size, ofL_size, four_len]; omega) ?_
    rw [ofL_append]
    exact Ev.now _
/-- A record's tag is the document's. -/
theorem same_rec (a b : Int) (l m : List Int) (d : ByteArray) (hl : l.length ≤ 17592186044415) (hm : m.length ≤ 9223372036854775806) (hd : d.size ≤ 140737488351232) : Ev (fun k => clinkerlaw03_same.f k a b l m d) true := by
  unfold clinkerlaw03_same.f
  refine Ev.bind (enc_ev a b l m d hl hd) (Ev.bind (renc_ev a b l m d (by omega) hm hd) ?_)
  rw [right_ev a b l m hl]
  refine Ev.pure_ (Ev.bind (rright_ev a b l m (by omega) hm) ?_)
  refine Ev.ite_pos (by simp) (Ev.ite_pos rfl ?_)
  simp only [beq_self_eq_true]
  exact Ev.now _


theorem sameL_l0 (l m : List Int) (hlm : l.length = m.length) (hl : l.length ≤ 9223372036854775806) : ∀ (d i : Nat), i + d = l.length → (∀ j, j < i → l.getD j 0 = m.getD j 0) → Ev (fun k => clinkerref02_Same.l0 k l m (i : Int)) (decide (l = m))
  | 0, i, hi, h => by
    refine Ev.step (fun k => clinkerref02_Same.l0.eq_2 ..) (Ev.ite_neg (by omega) ?_)
    have e : l = m := by
      refine List.ext_getElem hlm (fun j h1 h2 => ?_)
      have := h j (by omega)
      rw [List.getD_eq_getElem?_getD, List.getD_eq_getElem?_getD, List.getElem?_eq_getElem h1, List.getElem?_eq_getElem h2] at this
      exact this
    rw [decide_eq_true e]
    exact Ev.now true
  | d + 1, i, hi, h => by
    refine Ev.step (fun k => clinkerref02_Same.l0.eq_2 ..) (Ev.ite_pos (by omega) (Ev.ite_pos (by omega) (Ev.ite_pos (by omega) ?_)))
    rw [rd_nat, rd_nat, show wrap64 ((i : Int) + 1) = ((i + 1 : Nat) : Int) by rw [wrap64_in (by omega) (by omega)]; omega]
    by_cases e : l.getD i 0 = m.getD i 0
    · refine Ev.ite_pos e (sameL_l0 l m hlm hl d (i + 1) (by omega) (fun j hj => ?_))
      by_cases hji : j = i
      · rw [hji]; exact e
      · exact h j (by omega)
    · refine Ev.ite_neg e ?_
      rw [decide_eq_false (fun h2 => e (by rw [h2]))]
      exact Ev.now false
theorem sameL_ev (l m : List Int) (hl : l.length ≤ 9223372036854775806) : Ev (fun k => clinkerref02_Same.f k l m) (decide (l = m)) := by
  unfold clinkerref02_Same.f
  by_cases h : (l.length : Int) = (m.length : Int)
  · exact Ev.ite_pos h (sameL_l0 l m (by omega) hl l.length 0 (by omega) (fun j hj => by omega))
  · refine Ev.ite_neg h ?_
    rw [decide_eq_false (fun h2 => h (by rw [h2]))]
    exact Ev.now false
theorem rsame_ev (a b : Int) (l m : List Int) (a' b' : Int) (l' m' : List Int) (hl : l.length ≤ 9223372036854775806) (hm : m.length ≤ 9223372036854775806) : Ev (fun k => clinkerref03_Same.f k a b l m a' b' l' m') (decide (a = a' ∧ b = b' ∧ l = l' ∧ m = m')) := by
  unfold clinkerref03_Same.f
  by_cases h1 : a = a'
  · refine Ev.ite_pos h1 ?_
    by_cases h2 : b = b'
    · refine Ev.ite_pos h2 (Ev.bind (sameL_ev l l' hl) ?_)
      by_cases h3 : l = l'
      · rw [decide_eq_true h3]
        refine Ev.ite_pos rfl (Ev.bind (sameL_ev m m' hm) ?_)
        by_cases h4 : m = m'
        · rw [decide_eq_true h4, decide_eq_true ⟨h1, h2, h3, h4⟩]
          exact Ev.now true
        · rw [decide_eq_false h4, decide_eq_false (fun h => h4 h.2.2.2)]
          exact Ev.now false
      · rw [decide_eq_false h3, decide_eq_false (fun h => h3 h.2.2.1)]
        exact Ev.ite_neg (by simp) (Ev.now false)
    · rw [decide_eq_false (fun h => h2 h.2.1)]
      exact Ev.ite_neg h2 (Ev.now false)
  · rw [decide_eq_false (fun h => h1 h.1)]
    exact Ev.ite_neg h1 (Ev.now false)


/-- The record that a tag may be of. -/
def readV (t : List UInt8) : Option (Int × Int × List Int × List Int) :=
  match unpackL t with
  | none => none
  | some (o, r1) => if o.length = 2 then (match unpackL r1 with
    | none => none
    | some (k, r2) => match unpackL r2 with
      | none => none
      | some (v, _) => some ((nats o).getD 0 0, (nats o).getD 1 0, nats k, addAll (-1) (nats v))) else none
def readE : Option (Int × Int × List Int × List Int) → Int × Int × List Int × List Int × Int
  | none => (0, 0, [], [], 30)
  | some (a, b, l, m) => (a, b, l, m, 0)
theorem unpack_len {l r : List UInt8} {o : List Nat} (h : unpackL l = some (o, r)) : r.length ≤ l.length ∧ o.length ≤ l.length := by
  obtain ⟨h1, _, _⟩ := unpack_back h
  have h2 := flat_length o
  rw [h1]
  unfold packL
  rw [List.length_append, List.length_append]
  omega
theorem read_ev (t : List UInt8) (ht : t.length ≤ 100000) : Ev (fun k => tag_read.f k (ofL t)) (readE (readV t)) := by
  unfold tag_read.f readV
  refine Ev.bind (unpack_ofL t (by omega)) ?_
  cases h1 : unpackL t with
  | none => exact Ev.ite_neg (by simp [unpackE]) (Ev.now _)
  | some p1 =>
    obtain ⟨o, r1⟩ := p1
    obtain ⟨e1, e2⟩ := unpack_len h1
    refine Ev.ite_pos rfl ?_
    dsimp only [unpackE]
    by_cases h2 : o.length = 2
    · rw [if_pos h2]
      refine Ev.ite_pos (by rw [nats_length]; exact h2) ?_
      refine Ev.bind (unpack_ofL r1 (by omega)) ?_
      cases h3 : unpackL r1 with
      | none => exact Ev.ite_neg (by simp [unpackE]) (Ev.now _)
      | some p2 =>
        obtain ⟨kk, r2⟩ := p2
        obtain ⟨e3, e4⟩ := unpack_len h3
        refine Ev.ite_pos rfl ?_
        dsimp only [unpackE]
        refine Ev.bind (unpack_ofL r2 (by omega)) ?_
        cases h4 : unpackL r2 with
        | none => exact Ev.ite_neg (by simp [unpackE]) (Ev.now _)
        | some p3 =>
          obtain ⟨v, r3⟩ := p3
          obtain ⟨e5, e6⟩ := unpack_len h4
          refine Ev.ite_pos rfl ?_
          dsimp only [unpackE]
          have hmv : tag_moved.f (nats v) (-1) = some (addAll (-1) (nats v)) := by unfold tag_moved.f; rw [if_pos (by rw [nats_length]; omega)]
          rw [hmv]
          exact Ev.pure_ (Ev.now _)
    · rw [if_neg h2]
      exact Ev.ite_neg (by rw [nats_length]; exact h2) (Ev.now _)
theorem read_small {t : List UInt8} (ht : t.length ≤ 100000) {a b : Int} {l m : List Int} (h : readV t = some (a, b, l, m)) : l.length ≤ 100000 ∧ m.length ≤ 100000 := by
  unfold readV at h
  cases h1 : unpackL t with
  | none => rw [h1] at h; cases h
  | some p1 =>
    obtain ⟨o, r1⟩ := p1
    obtain ⟨e1, e2⟩ := unpack_len h1
    rw [h1] at h
    dsimp only at h
    by_cases h2 : o.length = 2
    · rw [if_pos h2] at h
      cases h3 : unpackL r1 with
      | none => rw [h3] at h; cases h
      | some p2 =>
        obtain ⟨kk, r2⟩ := p2
        obtain ⟨e3, e4⟩ := unpack_len h3
        rw [h3] at h
        dsimp only at h
        cases h4 : unpackL r2 with
        | none => rw [h4] at h; cases h
        | some p3 =>
          obtain ⟨v, r3⟩ := p3
          obtain ⟨e5, e6⟩ := unpack_len h4
          rw [h4] at h
          cases h
          rw [addAll_length, nats_length, nats_length]
          omega
    · rw [if_neg h2] at h; cases h
/-- The record of a tag, with data. -/
def decV (t : List UInt8) (d : ByteArray) : Int × Int × List Int × List Int × Int :=
  match readV t with
  | none => (0, 0, [], [], 30)
  | some (a, b, l, m) => if (encV a b l m d).2 = 0 then (if (encV a b l m d).1.toList = t then (a, b, l, m, 0) else (0, 0, [], [], 30)) else (0, 0, [], [], 30)
theorem dec_ev (t : List UInt8) (ht : t.length ≤ 100000) (d : ByteArray) (hd : d.size ≤ 140737488351232) : Ev (fun k => tag_Decode.f k (ofL t) d) (decV t d) := by
  unfold tag_Decode.f decV
  refine Ev.bind (read_ev t ht) ?_
  cases h1 : readV t with
  | none => exact Ev.ite_neg (by simp [readE]) (Ev.now _)
  | some p =>
    obtain ⟨a, b, l, m⟩ := p
    obtain ⟨e1, e2⟩ := read_small ht h1
    refine Ev.ite_pos rfl ?_
    dsimp only [readE]
    refine Ev.bind (enc_ev a b l m d (by omega) hd) ?_
    by_cases h2 : (encV a b l m d).2 = 0
    · refine Ev.ite_pos h2 ?_
      rw [if_pos h2, ofL_toList]
      by_cases h3 : (encV a b l m d).1.toList = t
      · refine Ev.ite_pos h3 ?_
        rw [if_pos h3]
        exact Ev.now _
      · refine Ev.ite_neg h3 ?_
        rw [if_neg h3]
        exact Ev.now _
    · refine Ev.ite_neg h2 ?_
      rw [if_neg h2]
      exact Ev.now _
end Go.Proofs.Ytejhgjmapnmigaa.X
