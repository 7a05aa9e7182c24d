/- The five statements of the sums of bytes, over numbers and lists alone. -/
import Derived.Test.YtfaicfbhohlokaaCrcPure
namespace Go.Proofs.Ytfaicfbhohlokaa.X
open Go.RowKit Go.Proofs.Ytfaicfbhohlokaa.PAll Go.Proofs.YtfaicfbhohlokaaW.PrintWords Go.Proofs.YtfaicfbhohlokaaW.PrintLast Go.Proofs.YtfaicfbhohlokaaW.PrintMore

theorem and15 (c : BitVec 32) : Go.bits .and .i64 (c.toNat : Int) 15 = ((c.toNat % 16 : Nat) : Int) := by
  have h := bits_mask .i64 32 (by decide) (fun n h0 h1 => by rw [IntKind.wrap_i64]; omega) 4 (by decide) (c.toNat : Int) (by omega) (by have := c.isLt; omega)
  have e : ((2 : Int) ^ 4 - 1) = 15 := rfl
  have e2 : ((2 : Int) ^ 4) = 16 := rfl
  rw [e, e2] at h
  rw [h]
  omega
theorem print_ev (s : ByteArray) (hs : s.size ≤ 9223372036854775807) : Ev (fun k => crc_Print.f k s) ((((sumB s.data.toList).toNat % 16 : Nat)) : Int) := by
  unfold crc_Print.f
  refine Ev.bind (sum_ev s hs) ?_
  rw [and15]
  exact Ev.now _
theorem rprint_ev (s : ByteArray) (hs : s.size ≤ 9223372036854775807) : Ev (fun k => clinkerref01_Print.f k s) ((((sumB s.data.toList).toNat % 16 : Nat)) : Int) := by
  unfold clinkerref01_Print.f
  refine Ev.bind (rsum_ev s hs) ?_
  have e : Int.tmod ((sumB s.data.toList).toNat : Int) 16 = (((sumB s.data.toList).toNat % 16 : Nat) : Int) := by
    rw [Int.tmod_eq_emod_of_nonneg (by omega)]; omega
  rw [e]
  exact Ev.now _

theorem sum_nine : sumB [49, 50, 51, 52, 53, 54, 55, 56, 57] = 3421780262#32 := by decide +kernel
theorem sum_none : sumB [] = 0#32 := by decide +kernel
theorem awake_ev : Ev (fun k => clinkerlaw01_awake.f k) true := by
  unfold clinkerlaw01_awake.f
  have h1 := sum_ev ⟨#[49, 50, 51, 52, 53, 54, 55, 56, 57]⟩ (by decide)
  have h2 := sum_ev ⟨#[]⟩ (by decide)
  have h3 := print_ev ⟨#[49, 50, 51, 52, 53, 54, 55, 56, 57]⟩ (by decide)
  have e1 : sumB (⟨#[49, 50, 51, 52, 53, 54, 55, 56, 57]⟩ : ByteArray).data.toList = 3421780262#32 := sum_nine
  have e2 : sumB (⟨#[]⟩ : ByteArray).data.toList = 0#32 := sum_none
  rw [e1] at h1 h3
  rw [e2] at h2
  refine Ev.bind h1 (Ev.ite_pos rfl (Ev.bind h2 (Ev.ite_pos rfl (Ev.bind h3 (Ev.ite_pos rfl ?_)))))
  have e3 : crc_Bytes.f 67305985 = some (strOfNums [1, 2, 3, 4]) := by unfold crc_Bytes.f; rw [if_pos (by omega)]; rfl
  have e4 : crc_Bytes.f (-1) = some ⟨#[]⟩ := by unfold crc_Bytes.f; rw [if_neg (by omega)]
  rw [e3, e4]
  refine Ev.pure_ (Ev.ite_pos (by rw [toList_eq]; rfl) (Ev.pure_ ?_))
  rw [toList_eq]
  exact Ev.now true

theorem law_CrcSum : clinkerlaw01_CrcSum.Pure := by
  intro s hs
  refine Ev.rounds (g := fun k => clinkerlaw01_CrcSum.f k s) ?_
  unfold clinkerlaw01_CrcSum.f
  refine Ev.bind awake_ev (Ev.ite_pos rfl ?_)
  by_cases h : (s.size : Int) > 2000
  · exact Ev.ite_pos h (Ev.now _)
  · refine Ev.ite_neg h (Ev.bind (sum_ev s (by omega)) (Ev.bind (rsum_ev s (by omega)) (Ev.ite_pos rfl (Ev.bind (print_ev s (by omega)) (Ev.bind (rprint_ev s (by omega)) ?_)))))
    rw [show (((((sumB s.data.toList).toNat % 16 : Nat)) : Int) == (((sumB s.data.toList).toNat % 16 : Nat) : Int)) = true from beq_self_eq_true _]
    exact Ev.now true

theorem law_CrcBytes : clinkerlaw01_CrcBytes.Pure := by
  intro n hn
  refine Ev.rounds (g := fun k => clinkerlaw01_CrcBytes.f k n) ?_
  unfold clinkerlaw01_CrcBytes.f
  refine Ev.bind awake_ev (Ev.ite_pos rfl ?_)
  have e : clinkerref01_Bytes.f n = crc_Bytes.f n := by
    unfold clinkerref01_Bytes.f crc_Bytes.f
    by_cases h0 : n < 0
    · rw [if_pos h0, if_neg (by omega)]
    · rw [if_neg h0]
      by_cases h1 : n > 4294967295
      · rw [if_pos h1, if_neg (by omega)]
      · rw [if_neg h1, if_pos (by omega)]
        rw [Int.tdiv_eq_ediv_of_nonneg (by omega), Int.tdiv_eq_ediv_of_nonneg (by omega), Int.tdiv_eq_ediv_of_nonneg (by omega)]
        rw [wrap64_in (by omega) (by omega), wrap64_in (by omega) (by omega), wrap64_in (by omega) (by omega)]
        rw [Int.tmod_eq_emod_of_nonneg (by omega), Int.tmod_eq_emod_of_nonneg (by omega), Int.tmod_eq_emod_of_nonneg (by omega)]
        congr 2
        congr 1
        · omega
        congr 1
        · omega
        congr 1
        · omega
        congr 1
        omega
  rw [e]
  unfold crc_Bytes.f
  simp only [Option.bind_some, beq_self_eq_true]
  exact Ev.now true

/-! Bytes as numbers. -/
theorem bits_xor8 (a b : UInt8) : Go.bits .xor .u8 (a.toNat : Int) (b.toNat : Int) = ((a ^^^ b).toNat : Int) := by
  show IntKind.u8.wrap ((BitVec.ofInt 8 (a.toNat : Int) ^^^ BitVec.ofInt 8 (b.toNat : Int)).toNat : Int) = _
  have ha := a.toNat_lt
  have hb := b.toNat_lt
  have hx : a.toNat ^^^ b.toNat < 2 ^ 8 := Nat.xor_lt_two_pow (by omega) (by omega)
  rw [BitVec.ofInt_natCast, BitVec.ofInt_natCast, BitVec.toNat_xor, BitVec.toNat_ofNat, BitVec.toNat_ofNat, UInt8.toNat_xor]
  rw [Nat.mod_eq_of_lt (by omega), Nat.mod_eq_of_lt (by omega), IntKind.wrap_u8]
  omega
theorem xor3_take (l m n : List UInt8) (i : Nat) (a b c : UInt8) (ha : l[i]? = some a) (hb : m[i]? = some b) (hc : n[i]? = some c) :
    xor3 (l.take (i + 1)) (m.take (i + 1)) (n.take (i + 1)) = xor3 (l.take i) (m.take i) (n.take i) ++ [a ^^^ b ^^^ c] := by
  induction i generalizing l m n with
  | zero =>
    cases l with
    | nil => simp at ha
    | cons x l =>
      cases m with
      | nil => simp at hb
      | cons y m =>
        cases n with
        | nil => simp at hc
        | cons z n =>
          simp at ha hb hc
          subst ha hb hc
          simp [xor3]
  | succ i ih =>
    cases l with
    | nil => simp at ha
    | cons x l =>
      cases m with
      | nil => simp at hb
      | cons y m =>
        cases n with
        | nil => simp at hc
        | cons z n =>
          simp only [List.getElem?_cons_succ] at ha hb hc
          have := ih l m n ha hb hc
          simp only [List.take_succ_cons, xor3, List.cons_append]
          rw [this]
theorem xor3_length (l m n : List UInt8) (h1 : l.length = m.length) (h2 : m.length = n.length) : (xor3 l m n).length = l.length := by
  induction l generalizing m n with
  | nil => cases m <;> simp [xor3] at *
  | cons x l ih =>
    cases m with
    | nil => simp at h1
    | cons y m =>
      cases n with
      | nil => simp at h2
      | cons z n =>
        simp only [xor3, List.length_cons]
        simp only [List.length_cons] at h1 h2
        rw [ih m n (by omega) (by omega)]

theorem linear_l0 (a b c : ByteArray) (n : Nat) (ha : n ≤ a.size) (hb : n ≤ b.size) (hc : n ≤ c.size) (hn : n ≤ 200) : ∀ (d i : Nat), i + d = n →
    Ev (fun k => clinkerlaw01_CrcLinear.l0 k a b c true (n : Int) (ints (xor3 (a.data.toList.take i) (b.data.toList.take i) (c.data.toList.take i))) (i : Int)) true
  | 0, i, hi => by
    obtain rfl : i = n := by omega
    have e1 := sum_ev (strOfNums (ints (xor3 (a.data.toList.take i) (b.data.toList.take i) (c.data.toList.take i))))
    have la : (a.data.toList.take i).length = i := by rw [List.length_take, data_length]; omega
    have lb : (b.data.toList.take i).length = i := by rw [List.length_take, data_length]; omega
    have lc : (c.data.toList.take i).length = i := by rw [List.length_take, data_length]; omega
    have lx := xor3_length (a.data.toList.take i) (b.data.toList.take i) (c.data.toList.take i) (by omega) (by omega)
    rw [strOfNums_size, ints_length, str_ints] at e1
    have sz : ∀ s : ByteArray, i ≤ s.size → (s.extract 0 i).size = i := fun s hs => by
      rw [← data_length, extract_list, List.length_take, data_length]; omega
    have ea := sum_ev (a.extract 0 i) (by rw [sz a ha]; omega)
    have eb := sum_ev (b.extract 0 i) (by rw [sz b hb]; omega)
    have ec := sum_ev (c.extract 0 i) (by rw [sz c hc]; omega)
    rw [extract_list] at ea eb ec
    refine Ev.step (fun k => clinkerlaw01_CrcLinear.l0.eq_2 ..) ?_
    refine Ev.ite_neg (by omega) (Ev.ite_pos rfl (Ev.bind (e1 (by omega)) ?_))
    rw [Int.toNat_natCast]
    refine Ev.ite_pos (by omega) (Ev.ite_pos (by omega) (Ev.bind ea (Ev.ite_pos (by omega) (Ev.bind eb (Ev.ite_pos (by omega) (Ev.bind ec ?_))))))
    rw [bits_xor64, bits_xor64, sumB_xor3 _ _ _ (by omega) (by omega), beq_self_eq_true]
    exact Ev.now true
  | d + 1, i, hi => by
    have ih := linear_l0 a b c n ha hb hc hn d (i + 1) (by omega)
    obtain ⟨x, hx, ex⟩ := bt_val a i (by omega)
    obtain ⟨y, hy, ey⟩ := bt_val b i (by omega)
    obtain ⟨z, hz, ez⟩ := bt_val c i (by omega)
    have la : (a.data.toList.take i).length = i := by rw [List.length_take, data_length]; omega
    have lb : (b.data.toList.take i).length = i := by rw [List.length_take, data_length]; omega
    have lc : (c.data.toList.take i).length = i := by rw [List.length_take, data_length]; omega
    have lx := xor3_length (a.data.toList.take i) (b.data.toList.take i) (c.data.toList.take i) (by omega) (by omega)
    refine Ev.step (fun k => ?_) ih
    simp only [clinkerlaw01_CrcLinear.l0]
    rw [if_pos (by omega), if_pos (by omega), if_pos (by omega), if_pos (by omega), if_pos (by omega), if_pos (by rw [ints_length]; omega)]
    rw [ex, ey, ez, bits_xor8, bits_xor8, ints_snoc, ← xor3_take _ _ _ i x y z hx hy hz, wrap64_in (by omega) (by omega)]
    rfl
theorem mn_cases (a b : Int) : mn a b = if b < a then b else a := rfl
theorem law_CrcLinear : clinkerlaw01_CrcLinear.Pure := by
  intro a b c ha hb hc
  refine Ev.rounds (g := fun k => clinkerlaw01_CrcLinear.f k a b c) ?_
  unfold clinkerlaw01_CrcLinear.f
  refine Ev.bind awake_ev (Ev.ite_pos rfl ?_)
  have key : ∀ n : Nat, n ≤ a.size → n ≤ b.size → n ≤ c.size → n ≤ 200 → Ev (fun k => clinkerlaw01_CrcLinear.j0 k a b c true (n : Int)) true := by
    intro n h1 h2 h3 h4
    have := linear_l0 a b c n h1 h2 h3 h4 n 0 (by omega)
    exact Ev.step (fun k => by simp only [clinkerlaw01_CrcLinear.j0]; rfl) this
  obtain ⟨n, hn, h1, h2, h3⟩ : ∃ n : Nat, mn (a.size : Int) (mn (b.size : Int) (c.size : Int)) = (n : Int) ∧ n ≤ a.size ∧ n ≤ b.size ∧ n ≤ c.size := by
    refine ⟨min a.size (min b.size c.size), ?_, by omega, by omega, by omega⟩
    rw [mn_cases, mn_cases]
    split <;> split <;> omega
  rw [hn]
  by_cases h : (n : Int) > 200
  · exact Ev.ite_pos h (key 200 (by omega) (by omega) (by omega) (by omega))
  · exact Ev.ite_neg h (key n h1 h2 h3 (by omega))

/-! One byte that is another one; the sum's bytes behind the text. -/
def spoil (at_ : Nat) (by_ : UInt8) : Nat → List UInt8 → List UInt8
  | _, [] => []
  | i, x :: l => (if i = at_ then x ^^^ by_ else x) :: spoil at_ by_ (i + 1) l
theorem spoil_snoc (p : Nat) (b : UInt8) (x : UInt8) : ∀ (l : List UInt8) (i : Nat), spoil p b i (l ++ [x]) = spoil p b i l ++ [if i + l.length = p then x ^^^ b else x]
  | [], i => by simp [spoil]
  | y :: l, i => by
    have := spoil_snoc p b x l (i + 1)
    simp only [List.cons_append, spoil, this, List.length_cons]
    rw [show i + 1 + l.length = i + (l.length + 1) by omega]
theorem spoil_length (p : Nat) (b : UInt8) : ∀ (l : List UInt8) (i : Nat), (spoil p b i l).length = l.length
  | [], _ => rfl
  | _ :: l, i => by simp [spoil, spoil_length p b l (i + 1)]
theorem spoil_off (p : Nat) (b : UInt8) : ∀ (l : List UInt8) (i : Nat), p < i → spoil p b i l = l
  | [], _, _ => rfl
  | x :: l, i, h => by
    simp only [spoil]
    rw [if_neg (by omega), spoil_off p b l (i + 1) (by omega)]
theorem xor_byte (x b : UInt8) (h : x ^^^ b = x) : b = 0 := by
  have := congrArg (fun z => x ^^^ z) h
  simpa [← UInt8.xor_assoc] using this
theorem spoil_sum (p : Nat) (b : UInt8) (hb : b ≠ 0) : ∀ (l : List UInt8) (i : Nat) (c : BitVec 32), i ≤ p → p < i + l.length → crcB c (spoil p b i l) ≠ crcB c l
  | [], i, _, h1, h2 => by simp at h2; omega
  | x :: l, i, c, h1, h2 => by
    simp only [spoil, crcB_cons]
    by_cases e : i = p
    · rw [if_pos e, spoil_off p b l (i + 1) (by omega)]
      intro h
      exact hb (xor_byte x b (byteB_sep _ _ _ (crcB_inj _ _ _ h)))
    · rw [if_neg e]
      simp only [List.length_cons] at h2
      exact spoil_sum p b hb l (i + 1) _ (by omega) (by omega)
theorem spoil_zero (p : Nat) : ∀ (l : List UInt8) (i : Nat), spoil p 0 i l = l
  | [], _ => rfl
  | x :: l, i => by simp [spoil, spoil_zero p l (i + 1)]
theorem sumB_toNat (l m : List UInt8) : ((((sumB l).toNat : Int) == ((sumB m).toNat : Int)) = true) ↔ crcB ones l = crcB ones m := by
  rw [beq_iff_eq]
  constructor
  · intro h
    have h1 : sumB l = sumB m := BitVec.eq_of_toNat_eq (by omega)
    unfold sumB at h1
    have := congrArg (fun z => z ^^^ ones) h1
    simpa [BitVec.xor_assoc] using this
  · intro h
    unfold sumB
    rw [h]
theorem bytes_four (n : Nat) (hn : n < 4294967296) : ∃ t, crc_Bytes.f (n : Int) = some t ∧ t.data.toList = four n ∧ t.size = 4 := by
  refine ⟨_, by unfold crc_Bytes.f; rw [if_pos (by omega)], ?_, by rw [strOfNums_size]; rfl⟩
  rw [strOfNums_toList]
  unfold four
  simp only [List.map_cons, List.map_nil]
  rw [show ((n : Int) % 256).toNat = n % 256 by omega, show ((n : Int) / 256 % 256).toNat = n / 256 % 256 by omega, show ((n : Int) / 65536 % 256).toNat = n / 65536 % 256 by omega, show ((n : Int) / 16777216).toNat = n / 16777216 % 256 by omega]
theorem zero_four : ∃ t, crc_Bytes.f 0 = some t ∧ t.data.toList = four 0 ∧ t.size = 4 := bytes_four 0 (by omega)

theorem behind_l0 (s : ByteArray) (hs : s.size ≤ 200) (a : Int) (b : UInt8) (ha0 : 0 ≤ a) (ha : a ≤ 255) : ∀ (d i : Nat), i + d = s.size →
    Ev (fun k => clinkerlaw01_CrcBehind.l0 k s a (b.toNat : Int) true (ints (spoil (a.toNat % s.size) b 0 (s.data.toList.take i))) (i : Int)) true
  | 0, i, hi => by
    have e0 : s.data.toList.take i = s.data.toList := List.take_of_length_le (by rw [data_length]; omega)
    rw [e0]
    have ls : s.data.toList.length = s.size := data_length s
    have e1 := sum_ev (strOfNums (ints (spoil (a.toNat % s.size) b 0 s.data.toList)))
    rw [strOfNums_size, ints_length, spoil_length, str_ints] at e1
    have e2 := sum_ev s (by omega)
    obtain ⟨t, ht, lt, st⟩ := bytes_four (sumB s.data.toList).toNat (BitVec.isLt _)
    obtain ⟨z, hz, lz, sz⟩ := zero_four
    have e3 := sum_ev (s ++ t) (by rw [← data_length, ByteArray.toList_data_append, List.length_append, data_length, data_length]; omega)
    rw [ByteArray.toList_data_append, lt, sumB_behind] at e3
    have e4 := sum_ev z (by omega)
    rw [lz] at e4
    refine Ev.step (fun k => clinkerlaw01_CrcBehind.l0.eq_2 ..) ?_
    refine Ev.ite_neg (by omega) (Ev.bind (e1 (by omega)) (Ev.bind e2 (Ev.ite_pos rfl (Ev.bind e2 ?_))))
    rw [ht, hz]
    refine Ev.pure_ (Ev.ite_pos (by omega) (Ev.bind e3 (Ev.pure_ (Ev.bind e4 (Ev.ite_pos rfl ?_)))))
    by_cases hb : b = 0
    · subst hb
      refine Ev.ite_pos rfl ?_
      rw [spoil_zero]
      simp only [beq_self_eq_true]
      exact Ev.now true
    · have hbn : ¬ ((b.toNat : Int) = 0) := fun h => hb (UInt8.toNat.inj (by simpa using h))
      refine Ev.ite_neg hbn ?_
      by_cases h0 : s.size = 0
      · have el : s.data.toList = [] := List.eq_nil_of_length_eq_zero (by omega)
        rw [el]
        have : ((s.size : Int) == 0) = true := by rw [h0]; rfl
        rw [this]
        simp only [spoil, beq_self_eq_true]
        exact Ev.now true
      · have h1 : ((s.size : Int) == 0) = false := by rw [beq_eq_false_iff_ne]; omega
        have h2 : (((sumB (spoil (a.toNat % s.size) b 0 s.data.toList)).toNat : Int) == ((sumB s.data.toList).toNat : Int)) = false := by
          rw [Bool.eq_false_iff]
          intro h
          have := Nat.mod_lt a.toNat (show 0 < s.size by omega)
          exact spoil_sum _ b hb s.data.toList 0 ones (by omega) (by omega) ((sumB_toNat _ _).mp h)
        rw [h1, h2]
        exact Ev.now true
  | d + 1, i, hi => by
    have ih := behind_l0 s hs a b ha0 ha d (i + 1) (by omega)
    obtain ⟨x, hx, ex⟩ := bt_val s i (by omega)
    have hl : i < s.data.toList.length := by rw [data_length]; omega
    have et : s.data.toList.take (i + 1) = s.data.toList.take i ++ [x] := by
      rw [List.take_succ_eq_append_getElem hl]
      congr 2
      rw [List.getElem?_eq_getElem hl] at hx
      exact Option.some.inj hx
    have le : (s.data.toList.take i).length = i := by rw [List.length_take]; omega
    rw [et, spoil_snoc, Nat.zero_add, le] at ih
    have em : Int.tmod (wrap64 a) (s.size : Int) = ((a.toNat % s.size : Nat) : Int) := by
      rw [wrap64_in (by omega) (by omega), Int.tmod_eq_emod_of_nonneg ha0, Int.natCast_emod, Int.toNat_of_nonneg ha0]
    refine Ev.step (fun k => clinkerlaw01_CrcBehind.l0.eq_2 ..) ?_
    refine Ev.ite_pos (by omega) (Ev.ite_pos (by omega) (Ev.ite_neg (by omega) ?_))
    rw [em, ex, wrap64_in (by omega) (by omega)]
    have lx : (ints (spoil (a.toNat % s.size) b 0 (s.data.toList.take i))).length = i := by rw [ints_length, spoil_length, le]
    by_cases hp : i = a.toNat % s.size
    · rw [if_pos hp] at ih
      refine Ev.ite_pos (by omega) (Ev.ite_pos (by omega) ?_)
      rw [bits_xor8, ints_snoc]
      exact ih
    · rw [if_neg hp] at ih
      refine Ev.ite_neg (by omega) (Ev.ite_pos (by omega) ?_)
      rw [ints_snoc]
      exact ih
theorem wf_u8 {a : Int} (h : (Lit.int .u8 a).wf = true) : 0 ≤ a ∧ a ≤ 255 := by
  simp [Lit.wf, IntKind.min, IntKind.max, IntKind.bits, IntKind.signed] at h
  omega
theorem law_CrcBehind : clinkerlaw01_CrcBehind.Pure := by
  intro s a b hs ha hb
  have ha' := wf_u8 ha
  have hb' := wf_u8 hb
  refine Ev.rounds (g := fun k => clinkerlaw01_CrcBehind.f k s a b) ?_
  unfold clinkerlaw01_CrcBehind.f
  refine Ev.bind awake_ev (Ev.ite_pos rfl ?_)
  obtain ⟨c, rfl⟩ : ∃ c : UInt8, b = (c.toNat : Int) := ⟨UInt8.ofNat b.toNat, by rw [UInt8.toNat_ofNat']; omega⟩
  have key : ∀ t : ByteArray, t.size ≤ 200 → Ev (fun k => clinkerlaw01_CrcBehind.j0 k t a (c.toNat : Int) true) true := by
    intro t ht
    have := behind_l0 t ht a c ha'.1 ha'.2 t.size 0 (by omega)
    rw [List.take_zero] at this
    exact Ev.step (fun k => clinkerlaw01_CrcBehind.j0.eq_2 ..) this
  by_cases h : (s.size : Int) > 200
  · refine Ev.ite_pos h (Ev.ite_pos (by omega) (Ev.ite_pos (by omega) (key _ ?_)))
    rw [← data_length, extract_list, List.length_take]
    omega
  · exact Ev.ite_neg h (key s (by omega))

theorem law_CrcZeros : clinkerlaw01_CrcZeros.Pure := by
  intro a b ha hb
  have ha' := wf_u8 ha
  have hb' := wf_u8 hb
  refine Ev.rounds (g := fun k => clinkerlaw01_CrcZeros.f k a b) ?_
  unfold clinkerlaw01_CrcZeros.f
  have ea : Int.tmod (wrap64 a) 200 = ((a.toNat % 200 : Nat) : Int) := by
    rw [wrap64_in (by omega) (by omega), Int.tmod_eq_emod_of_nonneg ha'.1]; omega
  have eb : Int.tmod (wrap64 b) 200 = ((b.toNat % 200 : Nat) : Int) := by
    rw [wrap64_in (by omega) (by omega), Int.tmod_eq_emod_of_nonneg hb'.1]; omega
  have sz : (strOfNums (List.replicate 200 0)).size = 200 := by rw [strOfNums_size, List.length_replicate]
  have cutl : ∀ n : Nat, n < 200 → ((strOfNums (List.replicate 200 0)).extract 0 n).data.toList = List.replicate n 0 := by
    intro n hn
    rw [extract_list, strOfNums_toList, List.map_replicate, List.take_replicate]
    congr 1
    omega
  have ev : ∀ n : Nat, n < 200 → Ev (fun k => crc_Sum.f k ((strOfNums (List.replicate 200 0)).extract 0 n)) ((sumB (List.replicate n 0)).toNat : Int) := by
    intro n hn
    have := sum_ev ((strOfNums (List.replicate 200 0)).extract 0 n) (by rw [← data_length, cutl n hn, List.length_replicate]; omega)
    rw [cutl n hn] at this
    exact this
  refine Ev.bind awake_ev (Ev.ite_pos rfl (Ev.ite_pos (by omega) (Ev.pure_ ?_)))
  rw [ea, eb, Int.toNat_natCast, Int.toNat_natCast, sz]
  have la := Nat.mod_lt a.toNat (show 0 < 200 by omega)
  have lb := Nat.mod_lt b.toNat (show 0 < 200 by omega)
  refine Ev.ite_pos (by omega) (Ev.ite_pos (by omega) (Ev.bind (ev _ la) (Ev.ite_pos (by omega) (Ev.ite_pos (by omega) (Ev.bind (ev _ lb) ?_)))))
  have h1 : ((((sumB (List.replicate (a.toNat % 200) 0)).toNat : Int) == ((sumB (List.replicate (b.toNat % 200) 0)).toNat : Int)) == (((a.toNat % 200 : Nat) : Int) == ((b.toNat % 200 : Nat) : Int))) = true := by
    rw [beq_iff_eq, Bool.eq_iff_iff, beq_iff_eq, beq_iff_eq]
    have := noughts_apart _ _ la lb
    constructor
    · intro h
      have := this.mp (BitVec.eq_of_toNat_eq (by omega))
      omega
    · intro h
      have := this.mpr (by omega)
      rw [this]
  rw [h1]
  exact Ev.now true

end Go.Proofs.Ytfaicfbhohlokaa.X
