/- Tags of records, told and read: the document's functions come to the plain words. -/
import Derived.Test.YtfolonajajideaaBase
import Derived.Test.YtfolonajajideaaTagMadeB
import Derived.Test.YtfolonajajideaaPAllx8
import Derived.Test.YtfolonajajideaaPAllx9
import Derived.Test.YtfolonajajideaaPAllx10
import Derived.Test.YtfolonajajideaaPAllx14
import Derived.Test.YtfolonajajideaaPAllx15
import Derived.Laws.BitsLemmas
import Derived.WalkKit
namespace Go.Proofs.Ytfolonajajideaa.X
open Go.RowKit Go.Proofs.YtfolonajajideaaW.PrintWords Go.Proofs.YtfolonajajideaaW.PrintLast
set_option linter.unusedVariables false
set_option linter.unusedSimpArgs false
/-- Each number with something more. -/
def addAll (d : Int) (l : List Int) : List Int := l.map fun x => wrap64 (x + d)
open Go.RowKit Go.Proofs.Ytfolonajajideaa.PAll Go.Proofs.YtfolonajajideaaW.PrintWords Go.Proofs.YtfolonajajideaaW.PrintLast Go.Proofs.YtfolonajajideaaW.PrintMore
/-! Texts as lists of bytes. -/
def ofL (l : List UInt8) : ByteArray := ⟨l.toArray⟩
theorem ofL_list (l : List UInt8) : (ofL l).data.toList = l := rfl
theorem ofL_toList (l : List UInt8) : (ofL l).toList = l := by rw [toList_eq]; rfl
theorem ofL_size (l : List UInt8) : (ofL l).size = l.length := rfl
theorem ofL_of (s : ByteArray) : ofL s.data.toList = s := bytes_ext rfl
theorem ofL_append (l m : List UInt8) : ofL l ++ ofL m = ofL (l ++ m) := bytes_ext (by rw [ByteArray.toList_data_append]; rfl)
theorem str_ofL (l : List UInt8) : strOfNums (ints l) = ofL l := bytes_ext (by rw [str_ints]; rfl)
theorem extract_from (s : ByteArray) (j : Nat) : s.extract j s.size = ofL (s.data.toList.drop j) := by
  apply bytes_ext
  rw [ofL_list]
  simp only [ByteArray.data_extract, Array.toList_extract, List.extract_eq_take_drop]
  rw [List.take_of_length_le]
  simp

/-! A number's bytes. -/
def digs (n : Nat) : List UInt8 := if n < 128 then [UInt8.ofNat n] else UInt8.ofNat (128 + n % 128) :: digs (n / 128)
termination_by n
decreasing_by omega
theorem digs_small {n : Nat} (h : n < 128) : digs n = [UInt8.ofNat n] := by rw [digs, if_pos h]
theorem digs_more {n : Nat} (h : ¬ n < 128) : digs n = UInt8.ofNat (128 + n % 128) :: digs (n / 128) := by rw [digs, if_neg h]
theorem digs_ne (n : Nat) : digs n ≠ [] := by
  rw [digs]
  split <;> simp
theorem digs_pos (n : Nat) : 1 ≤ (digs n).length := by
  cases h : digs n with
  | nil => exact absurd h (digs_ne n)
  | cons x l => simp
def top : Nat := 1099511627776

/-- What a list of bytes begins with. -/
def takeL : Nat → Nat → List UInt8 → Option (Nat × List UInt8)
  | _, _, [] => none
  | i, n, c :: l => if 6 ≤ i then none else if c.toNat < 128 then (if (i = 0 ∨ 0 < c.toNat) ∧ n + c.toNat % 128 * 128 ^ i ≤ top then some (n + c.toNat % 128 * 128 ^ i, l) else none) else takeL (i + 1) (n + c.toNat % 128 * 128 ^ i) l

theorem pow_i (i : Nat) : 128 ^ (i + 1) = 128 * 128 ^ i := by rw [Nat.pow_succ, Nat.mul_comm]
theorem byte_nat (m : Nat) (h : m < 256) : (UInt8.ofNat m).toNat = m := by rw [UInt8.toNat_ofNat']; omega
/-- What is taken was put. -/
theorem takeL_back : ∀ (l : List UInt8) (i acc n : Nat) (r : List UInt8), takeL i acc l = some (n, r) →
    ∃ m, n = acc + m * 128 ^ i ∧ l = digs m ++ r ∧ (i = 0 ∨ 0 < m) ∧ n ≤ top
  | [], _, _, _, _, h => by simp [takeL] at h
  | c :: l, i, acc, n, r, h => by
    simp only [takeL] at h
    by_cases h6 : 6 ≤ i
    · rw [if_pos h6] at h; cases h
    rw [if_neg h6] at h
    have hc8 := c.toNat_lt
    by_cases hc : c.toNat < 128
    · rw [if_pos hc] at h
      by_cases hg : (i = 0 ∨ 0 < c.toNat) ∧ acc + c.toNat % 128 * 128 ^ i ≤ top
      · rw [if_pos hg] at h
        simp only [Option.some.injEq, Prod.mk.injEq] at h
        obtain ⟨rfl, rfl⟩ := h
        refine ⟨c.toNat % 128, rfl, ?_, ?_, hg.2⟩
        · rw [Nat.mod_eq_of_lt hc, digs_small hc]
          simp
        · rw [Nat.mod_eq_of_lt hc]; exact hg.1
      · rw [if_neg hg] at h; cases h
    · rw [if_neg hc] at h
      obtain ⟨m, rfl, rfl, hm, hb⟩ := takeL_back l _ _ n r h
      have hm' : 0 < m := by
        rcases hm with hm | hm
        · omega
        · exact hm
      have e : acc + c.toNat % 128 * 128 ^ i + m * 128 ^ (i + 1) = acc + (c.toNat % 128 + 128 * m) * 128 ^ i := by
        rw [pow_i, ← Nat.mul_assoc, Nat.add_assoc, ← Nat.add_mul]
        congr 2
        omega
      refine ⟨c.toNat % 128 + 128 * m, e, ?_, .inr (by omega), hb⟩
      rw [digs_more (n := c.toNat % 128 + 128 * m) (by omega), List.cons_append]
      congr 1
      · apply UInt8.toNat.inj
        rw [byte_nat _ (by omega)]
        omega
      · congr 2
        omega
def take0 (l : List UInt8) : Option (Nat × List UInt8) := takeL 0 0 l
theorem take0_back {l r : List UInt8} {n : Nat} (h : take0 l = some (n, r)) : l = digs n ++ r ∧ n ≤ top := by
  obtain ⟨m, h1, h2, _, h4⟩ := takeL_back l 0 0 n r h
  simp only [Nat.pow_zero, Nat.mul_one, Nat.zero_add] at h1
  subst h1
  exact ⟨h2, h4⟩
/-! Lists of numbers. -/
def flat (l : List Nat) : List UInt8 := l.flatMap digs
def packL (l : List Nat) : List UInt8 := digs l.length ++ flat l
def loopU : Nat → List Nat → List UInt8 → Option (List Nat × List UInt8)
  | 0, out, r => some (out, r)
  | n + 1, out, r => match take0 r with
    | none => none
    | some (k, r') => loopU n (out ++ [k]) r'
def unpackL (l : List UInt8) : Option (List Nat × List UInt8) :=
  match take0 l with
  | none => none
  | some (n, r) => if r.length < n then none else loopU n [] r
theorem flat_cons (x : Nat) (l : List Nat) : flat (x :: l) = digs x ++ flat l := by simp [flat]
theorem flat_length (l : List Nat) : l.length ≤ (flat l).length := by
  induction l with
  | nil => simp [flat]
  | cons x l ih =>
    rw [flat_cons, List.length_append, List.length_cons]
    have := digs_pos x
    omega
theorem loopU_back : ∀ (n : Nat) (out : List Nat) (l : List UInt8) (o : List Nat) (r : List UInt8), loopU n out l = some (o, r) →
    ∃ m, o = out ++ m ∧ m.length = n ∧ l = flat m ++ r ∧ ∀ x ∈ m, x ≤ top
  | 0, out, l, o, r, h => by
    simp only [loopU, Option.some.injEq, Prod.mk.injEq] at h
    obtain ⟨rfl, rfl⟩ := h
    exact ⟨[], by simp, rfl, by simp [flat], by simp⟩
  | n + 1, out, l, o, r, h => by
    simp only [loopU] at h
    cases ht : take0 l with
    | none => rw [ht] at h; cases h
    | some p =>
      obtain ⟨k, r'⟩ := p
      rw [ht] at h
      obtain ⟨m, rfl, rfl, rfl, hm⟩ := loopU_back n (out ++ [k]) r' o r h
      obtain ⟨rfl, hk⟩ := take0_back ht
      refine ⟨k :: m, by simp, rfl, by rw [flat_cons, List.append_assoc], ?_⟩
      intro x hx
      rcases List.mem_cons.mp hx with rfl | hx
      · exact hk
      · exact hm x hx
theorem unpack_back {l r : List UInt8} {o : List Nat} (h : unpackL l = some (o, r)) : l = packL o ++ r ∧ (∀ x ∈ o, x ≤ top) ∧ o.length ≤ top := by
  unfold unpackL at h
  cases ht : take0 l with
  | none => rw [ht] at h; cases h
  | some p =>
    obtain ⟨n, r'⟩ := p
    rw [ht] at h
    simp only at h
    by_cases hn : r'.length < n
    · rw [if_pos hn] at h; cases h
    · rw [if_neg hn] at h
      obtain ⟨m, rfl, rfl, rfl, hm⟩ := loopU_back n [] r' o r h
      obtain ⟨rfl, hk⟩ := take0_back ht
      refine ⟨?_, by simpa using hm, by simpa using hk⟩
      unfold packL
      simp
/-! Put -/
def putI (x : Int) : List UInt8 := if 0 ≤ x ∧ x ≤ 1099511627776 then digs x.toNat else []
theorem putI_nat (n : Nat) (h : n ≤ top) : putI (n : Int) = digs n := by
  unfold putI top at *
  rw [if_pos (by omega), Int.toNat_natCast]
theorem byte_mod (n : Nat) (h : n < 128) : ((n : Int) % 256) = ((UInt8.ofNat n).toNat : Int) := by
  rw [byte_nat n (by omega)]; omega
theorem rput_l0 : ∀ (n : Nat) (pre : List UInt8), pre.length + n < 140737488355328 → Ev (fun k => clinkerref02_Put.l0 k (n : Int) (ofL pre)) (ofL (pre ++ digs n)) := by
  intro n
  induction n using Nat.strongRecOn with
  | _ n ih =>
    intro pre hl
    refine Ev.step (fun k => clinkerref02_Put.l0.eq_2 ..) ?_
    by_cases h : n < 128
    · rw [digs_small h]
      refine Ev.ite_neg (by omega) (Ev.pure_ ?_)
      have e : strOfNums [(n : Int) % 256] = ofL [UInt8.ofNat n] := by
        rw [byte_mod n h]
        exact str_ofL [UInt8.ofNat n]
      rw [e, ofL_append, ofL_size, ofL_size]
      exact Ev.ite_pos (by simp; omega) (Ev.now _)
    · rw [digs_more h]
      have := ih (n / 128) (by omega) (pre ++ [UInt8.ofNat (128 + n % 128)]) (by simp; omega)
      rw [List.append_assoc, List.singleton_append] at this
      refine Ev.ite_pos (by omega) (Ev.pure_ ?_)
      have e1 : wrap64 (128 + Int.tmod (n : Int) 128) % 256 = ((UInt8.ofNat (128 + n % 128)).toNat : Int) := by
        rw [byte_nat _ (by omega), Int.tmod_eq_emod_of_nonneg (by omega), wrap64_in (by omega) (by omega)]
        omega
      have e2 : wrap64 (Int.tdiv (n : Int) 128) = ((n / 128 : Nat) : Int) := by
        rw [Int.tdiv_eq_ediv_of_nonneg (by omega), wrap64_in (by omega) (by omega)]
        omega
      have e : strOfNums [wrap64 (128 + Int.tmod (n : Int) 128) % 256] = ofL [UInt8.ofNat (128 + n % 128)] := by
        rw [e1]
        exact str_ofL [UInt8.ofNat (128 + n % 128)]
      rw [e, e2, ofL_append, ofL_size, ofL_size]
      exact Ev.ite_pos (by simp; omega) this
theorem rput_ev (x : Int) : Ev (fun k => clinkerref02_Put.f k x) (ofL (putI x)) := by
  unfold clinkerref02_Put.f putI
  by_cases h0 : x < 0
  · rw [if_neg (by omega)]
    exact Ev.ite_pos h0 (Ev.step (fun k => clinkerref02_Put.j0.eq_2 ..) (Ev.ite_pos rfl (Ev.now _)))
  · refine Ev.ite_neg h0 (Ev.step (fun k => clinkerref02_Put.j0.eq_2 ..) ?_)
    by_cases h1 : x > 1099511627776
    · rw [if_neg (by omega)]
      exact Ev.ite_pos (decide_eq_true h1) (Ev.now _)
    · rw [if_pos (by omega)]
      refine Ev.ite_neg (by rw [decide_eq_true_iff]; exact h1) ?_
      have := rput_l0 x.toNat [] (by simp; omega)
      rw [Int.toNat_of_nonneg (by omega)] at this
      exact this

/-! Pack -/
def packS : List Int → List UInt8 → Option (List UInt8)
  | [], acc => some acc
  | x :: l, acc => if putI x = [] then none else packS l (acc ++ putI x)
def packE : Option (List UInt8) → ByteArray × Int
  | some l => (ofL l, 0)
  | none => (⟨#[]⟩, 1)
theorem putI_len (x : Int) : (putI x).length ≤ 6 := by
  unfold putI
  split
  · rename_i h
    have key : ∀ (j n : Nat), n < 128 ^ (j + 1) → (digs n).length ≤ j + 1 := by
      intro j
      induction j with
      | zero => intro n hn; rw [digs_small (by omega)]; simp
      | succ j ih =>
        intro n hn
        by_cases h : n < 128
        · rw [digs_small h]; simp
        · rw [digs_more h, List.length_cons]
          have h2 : 128 ^ (j + 1 + 1) = 128 * 128 ^ (j + 1) := pow_i (j + 1)
          have := ih (n / 128) (by omega)
          omega
    exact key 5 x.toNat (by omega)
  · simp
theorem drop_rd (l : List Int) (i : Nat) (h : i < l.length) : l.drop i = rd l (i : Int) :: l.drop (i + 1) := by
  rw [List.drop_eq_getElem_cons h]
  congr 1
  unfold rd
  rw [Int.toNat_natCast, List.getD_eq_getElem?_getD, List.getElem?_eq_getElem h]
  rfl
theorem rpack_l0 (l : List Int) (hl : l.length ≤ 9223372036854775807) : ∀ (d i : Nat) (acc : List UInt8), i + d = l.length → acc.length + 6 * d ≤ 9223372036854775807 →
    Ev (fun k => clinkerref02_Pack.l0 k l (ofL acc) (i : Int)) (packE (packS (l.drop i) acc))
  | 0, i, acc, hi, _ => by
    rw [List.drop_eq_nil_of_le (by omega)]
    refine Ev.step (fun k => clinkerref02_Pack.l0.eq_2 ..) (Ev.ite_neg (by omega) ?_)
    exact Ev.now _
  | d + 1, i, acc, hi, ha => by
    rw [drop_rd l i (by omega)]
    have h6 := putI_len (rd l (i : Int))
    refine Ev.step (fun k => clinkerref02_Pack.l0.eq_2 ..) (Ev.ite_pos (by omega) (Ev.ite_pos (by omega) (Ev.bind (rput_ev _) ?_)))
    rw [ofL_toList]
    simp only [packS]
    by_cases h : putI (rd l (i : Int)) = []
    · rw [if_pos h]
      exact Ev.ite_pos h (Ev.now _)
    · rw [if_neg h]
      have := rpack_l0 l hl d (i + 1) (acc ++ putI (rd l (i : Int))) (by omega) (by rw [List.length_append]; omega)
      refine Ev.ite_neg h ?_
      rw [ofL_size, ofL_size, ofL_append, wrap64_in (by omega) (by omega)]
      exact Ev.ite_pos (by omega) this
theorem rpack_ev (l : List Int) (hl : l.length * 6 + 6 ≤ 9223372036854775807) : Ev (fun k => clinkerref02_Pack.f k l) (packE (packS l (putI (l.length : Int)))) := by
  unfold clinkerref02_Pack.f
  have h6 := putI_len (l.length : Int)
  have := rpack_l0 l (by omega) l.length 0 (putI (l.length : Int)) (by omega) (by omega)
  rw [List.drop_zero] at this
  exact Ev.bind (rput_ev _) this
/-- Natural numbers as Go's. -/
def nats (l : List Nat) : List Int := l.map fun (n : Nat) => (n : Int)
theorem nats_length (l : List Nat) : (nats l).length = l.length := by unfold nats; rw [List.length_map]
theorem packS_nats : ∀ (l : List Nat) (acc : List UInt8), (∀ x ∈ l, x ≤ top) → packS (nats l) acc = some (acc ++ flat l)
  | [], acc, _ => by simp [nats, packS, flat]
  | x :: l, acc, h => by
    have hx := h x (by simp)
    have := packS_nats l (acc ++ digs x) (fun y hy => h y (by simp [hy]))
    unfold nats at this ⊢
    simp only [List.map_cons, packS]
    rw [putI_nat x hx, if_neg (digs_ne x), this, flat_cons, List.append_assoc]
/-! Take -/
def takeE : Option (Nat × List UInt8) → Int × ByteArray × Bool
  | some (n, r) => ((n : Int), ofL r, true)
  | none => (0, ⟨#[]⟩, false)
theorem drop_bt (s : ByteArray) (i : Nat) (h : i < s.size) : ∃ x, s.data.toList.drop i = x :: s.data.toList.drop (i + 1) ∧ wrap64 (bt s (i : Int)) = (x.toNat : Int) := by
  obtain ⟨x, rest, e1, e2, e3⟩ := bt_get s i h
  refine ⟨x, by rw [e1, e2], ?_⟩
  have := x.toNat_lt
  rw [e3, wrap64_in (by omega) (by omega)]
theorem pow_step {n c i : Nat} (hn : n < 128 ^ i) (hc : c < 128) : n + c * 128 ^ i < 128 ^ (i + 1) := by
  rw [pow_i]
  have h1 : c * 128 ^ i ≤ 127 * 128 ^ i := Nat.mul_le_mul_right _ (by omega)
  omega
/-! Unpack -/
def unpackE : Option (List Nat × List UInt8) → List Int × ByteArray × Int
  | some (o, r) => (nats o, ofL r, 0)
  | none => ([], ⟨#[]⟩, 20)
theorem take0_short {l r : List UInt8} {n : Nat} (h : take0 l = some (n, r)) : r.length < l.length := by
  obtain ⟨rfl, _⟩ := take0_back h
  have := digs_pos n
  rw [List.length_append]
  omega
theorem nats_snoc (o : List Nat) (k : Nat) : nats o ++ [(k : Int)] = nats (o ++ [k]) := by simp [nats]
theorem unit_step (i : Nat) (hi : i < 6) : wrap64 (((128 ^ i : Nat) : Int) * 128) = ((128 ^ (i + 1) : Nat) : Int) := by
  have : i = 0 ∨ i = 1 ∨ i = 2 ∨ i = 3 ∨ i = 4 ∨ i = 5 := by omega
  rcases this with rfl | rfl | rfl | rfl | rfl | rfl <;> (unfold wrap64; omega)
theorem sum_step (n c i : Nat) (hi : i < 6) (hn : n < 128 ^ i) (hc : c < 128) : wrap64 ((n : Int) + wrap64 ((c : Int) * ((128 ^ i : Nat) : Int))) = ((n + c * 128 ^ i : Nat) : Int) := by
  have : i = 0 ∨ i = 1 ∨ i = 2 ∨ i = 3 ∨ i = 4 ∨ i = 5 := by omega
  rcases this with rfl | rfl | rfl | rfl | rfl | rfl <;> (unfold wrap64; omega)
theorem rtake_l0 (s : ByteArray) (hs : s.size ≤ 9223372036854775807) : ∀ (d i n : Nat), i + d = min s.size 6 → n < 128 ^ i →
    Ev (fun k => clinkerref02_Take.l0 k s (n : Int) ((128 ^ i : Nat) : Int) (i : Int)) (takeE (takeL i n (s.data.toList.drop i)))
  | 0, i, n, hi, hn => by
    clear hn
    rcases Nat.lt_or_ge i s.size with h | h
    · obtain ⟨x, e1, _⟩ := drop_bt s i h
      rw [e1]
      simp only [takeL]
      rw [if_pos (by omega)]
      refine Ev.step (fun k => clinkerref02_Take.l0.eq_2 ..) (Ev.ite_pos (by omega) (Ev.step (fun k => clinkerref02_Take.j1.eq_2 ..) (Ev.ite_neg ?_ (Ev.now _))))
      rw [decide_eq_true_iff]
      omega
    · rw [List.drop_eq_nil_of_le (by rw [data_length]; omega)]
      exact Ev.step (fun k => clinkerref02_Take.l0.eq_2 ..) (Ev.ite_neg (by omega) (Ev.step (fun k => clinkerref02_Take.j1.eq_2 ..) (Ev.ite_neg (by simp) (Ev.now _))))
  | d + 1, i, n, hi, hn => by
    have HN := Aside0.mk hn
    clear hn
    obtain ⟨x, e1, e2⟩ := drop_bt s i (by omega)
    have hx := x.toNat_lt
    rw [e1]
    simp only [takeL]
    rw [if_neg (by omega)]
    have hm : Int.tmod (x.toNat : Int) 128 = ((x.toNat % 128 : Nat) : Int) := by rw [Int.tmod_eq_emod_of_nonneg (by omega)]; omega
    have hw : wrap64 ((i : Int) + 1) = ((i + 1 : Nat) : Int) := by rw [wrap64_in (by omega) (by omega)]; omega
    refine Ev.step (fun k => clinkerref02_Take.l0.eq_2 ..) (Ev.ite_pos (by omega) (Ev.step (fun k => clinkerref02_Take.j1.eq_2 ..) (Ev.ite_pos (decide_eq_true (by omega)) (Ev.ite_pos (by omega) (Ev.ite_pos (by omega) ?_)))))
    rw [e2, hm, sum_step n (x.toNat % 128) i (by omega) HN.out (Nat.mod_lt _ (by decide)), hw, Int.toNat_natCast, extract_from, unit_step i (by omega)]
    have hn2 := pow_step HN.out (Nat.mod_lt x.toNat (show 0 < 128 by decide))
    clear HN
    obtain ⟨v, hv⟩ : ∃ v, n + x.toNat % 128 * 128 ^ i = v := ⟨_, rfl⟩
    rw [hv] at hn2 ⊢
    clear hv
    by_cases hc : x.toNat < 128
    · refine Ev.ite_pos (by omega) ?_
      rw [if_pos hc]
      unfold top
      by_cases hb : (v : Int) > 1099511627776
      · refine Ev.ite_pos hb ?_
        rw [if_neg (by omega)]
        exact Ev.now _
      · refine Ev.ite_neg hb ?_
        by_cases h0 : i = 0
        · refine Ev.ite_neg (by omega) (Ev.ite_pos (by omega) (Ev.ite_pos (by omega) ?_))
          rw [if_pos (by omega)]
          exact Ev.now _
        · refine Ev.ite_pos (by omega) ?_
          by_cases hz : x.toNat = 0
          · refine Ev.ite_pos (by omega) ?_
            rw [if_neg (by omega)]
            exact Ev.now _
          · refine Ev.ite_neg (by omega) (Ev.ite_pos (by omega) (Ev.ite_pos (by omega) ?_))
            rw [if_pos (by omega)]
            exact Ev.now _
    · refine Ev.ite_neg (by omega) ?_
      rw [if_neg hc]
      exact rtake_l0 s hs d (i + 1) _ (by omega) hn2
theorem rtake_ev (s : ByteArray) (hs : s.size ≤ 9223372036854775807) : Ev (fun k => clinkerref02_Take.f k s) (takeE (take0 s.data.toList)) := by
  have h := rtake_l0 s hs (min s.size 6) 0 0 (by omega) (by decide)
  rw [List.drop_zero] at h
  exact h
theorem rtake_ofL (l : List UInt8) (hl : l.length ≤ 9223372036854775807) : Ev (fun k => clinkerref02_Take.f k (ofL l)) (takeE (take0 l)) := rtake_ev (ofL l) hl

theorem runpack_l0 (m : Nat) (hm : m ≤ top) : ∀ (d i : Nat) (out : List Nat) (l : List UInt8), i + d = m → out.length = i → l.length ≤ 9223372036854775807 →
    Ev (fun k => clinkerref02_Unpack.l0 k (m : Int) (ofL l) (nats out) (i : Int)) (unpackE (loopU d out l))
  | 0, i, out, l, hi, _, _ => by
    refine Ev.step (fun k => clinkerref02_Unpack.l0.eq_2 ..) (Ev.ite_neg (by omega) ?_)
    exact Ev.now _
  | d + 1, i, out, l, hi, ho, hl => by
    refine Ev.step (fun k => clinkerref02_Unpack.l0.eq_2 ..) (Ev.ite_pos (by omega) (Ev.bind (rtake_ofL l hl) ?_))
    simp only [loopU]
    cases ht : take0 l with
    | none => exact Ev.ite_neg (by simp [takeE]) (Ev.now _)
    | some p =>
      obtain ⟨k, r⟩ := p
      have h1 := take0_short ht
      have ih := runpack_l0 m hm d (i + 1) (out ++ [k]) r (by omega) (by simp [ho]) (by omega)
      unfold top at hm
      refine Ev.ite_pos rfl (Ev.ite_pos (by rw [nats_length]; omega) ?_)
      rw [wrap64_in (by omega) (by omega)]
      simp only [takeE]
      rw [nats_snoc]
      exact ih
theorem runpack_ofL (l : List UInt8) (hl : l.length ≤ 9223372036854775807) : Ev (fun k => clinkerref02_Unpack.f k (ofL l)) (unpackE (unpackL l)) := by
  unfold clinkerref02_Unpack.f unpackL
  refine Ev.bind (rtake_ofL l hl) ?_
  cases ht : take0 l with
  | none => exact Ev.ite_neg (by simp [takeE]) (Ev.step (fun k => clinkerref02_Unpack.j0.eq_2 ..) (Ev.ite_pos rfl (Ev.now _)))
  | some p =>
    obtain ⟨n, r⟩ := p
    have h1 := take0_short ht
    refine Ev.ite_pos rfl (Ev.step (fun k => clinkerref02_Unpack.j0.eq_2 ..) ?_)
    simp only [takeE, ofL_size]
    by_cases h : r.length < n
    · rw [if_pos h]
      exact Ev.ite_pos (decide_eq_true (by omega)) (Ev.now _)
    · rw [if_neg h]
      refine Ev.ite_neg (not_dec (by omega)) ?_
      exact runpack_l0 n (take0_back ht).2 n 0 [] r (by omega) rfl (by omega)


/-- One bit more. -/
def stepB (c : BitVec 32) : BitVec 32 := (c >>> 1) ^^^ (if c.getLsbD 0 then 3988292384#32 else 0#32)
def iterB : Nat → BitVec 32 → BitVec 32
  | 0, c => c
  | n + 1, c => iterB n (stepB c)
/-- One byte more. -/
def byteB (c : BitVec 32) (x : UInt8) : BitVec 32 := iterB 8 (c ^^^ BitVec.ofNat 32 x.toNat)
def crcB (c : BitVec 32) (l : List UInt8) : BitVec 32 := l.foldl byteB c
def ones : BitVec 32 := 4294967295#32
def sumB (l : List UInt8) : BitVec 32 := crcB ones l ^^^ ones

theorem stepB_toNat_even (c : BitVec 32) (h : c.toNat % 2 = 0) : (stepB c).toNat = c.toNat / 2 := by
  unfold stepB
  have h0 : c.getLsbD 0 = false := by
    rw [BitVec.getLsbD, Nat.testBit_zero, h]; rfl
  rw [h0]
  simp [Nat.shiftRight_eq_div_pow]
theorem crcB_cons (c : BitVec 32) (x : UInt8) (m : List UInt8) : crcB c (x :: m) = crcB (byteB c x) m := rfl

/-- A number's four bytes, the least first. -/
def four (n : Nat) : List UInt8 := [UInt8.ofNat (n % 256), UInt8.ofNat (n / 256 % 256), UInt8.ofNat (n / 65536 % 256), UInt8.ofNat (n / 16777216 % 256)]
theorem bits_xor64 (a b : BitVec 32) : Go.bits .xor .i64 (a.toNat : Int) (b.toNat : Int) = ((a ^^^ b).toNat : Int) := by
  show IntKind.i64.wrap ((BitVec.ofInt 64 (a.toNat : Int) ^^^ BitVec.ofInt 64 (b.toNat : Int)).toNat : Int) = _
  have ha := a.isLt
  have hb := b.isLt
  have hx : a.toNat ^^^ b.toNat < 2 ^ 32 := Nat.xor_lt_two_pow ha hb
  rw [BitVec.ofInt_natCast, BitVec.ofInt_natCast, BitVec.toNat_xor, BitVec.toNat_ofNat, BitVec.toNat_ofNat, BitVec.toNat_xor]
  rw [Nat.mod_eq_of_lt (by omega), Nat.mod_eq_of_lt (by omega), IntKind.wrap_i64]
  omega
theorem byte_i64 (x : UInt8) : wrap64 (x.toNat : Int) = ((BitVec.ofNat 32 x.toNat).toNat : Int) := by
  have := x.toNat_lt
  rw [BitVec.toNat_ofNat, Nat.mod_eq_of_lt (by omega), wrap64_in (by omega) (by omega)]

/-! The document's sum. -/
theorem rstep (c : BitVec 32) : clinkerref01_step.f (c.toNat : Int) = some ((stepB c).toNat : Int) := by
  unfold clinkerref01_step.f
  have e1 : Int.tmod (c.toNat : Int) 2 = ((c.toNat % 2 : Nat) : Int) := by
    rw [Int.tmod_eq_emod_of_nonneg (by omega)]; omega
  have e2 : wrap64 (Int.tdiv (c.toNat : Int) 2) = ((c >>> 1).toNat : Int) := by
    have := c.isLt
    rw [Int.tdiv_eq_ediv_of_nonneg (by omega), wrap64_in (by omega) (by omega)]
    simp [Nat.shiftRight_eq_div_pow]
  rw [e1, e2]
  by_cases hc : c.toNat % 2 = 1
  · rw [if_pos (by omega)]
    have h2 : (3988292384 : Int) = ((3988292384#32 : BitVec 32).toNat : Int) := rfl
    rw [h2, bits_xor64]
    unfold stepB
    have h0 : c.getLsbD 0 = true := by rw [BitVec.getLsbD, Nat.testBit_zero, hc]; rfl
    rw [h0]; rfl
  · rw [if_neg (by omega), stepB_toNat_even c (by omega)]
    simp [Nat.shiftRight_eq_div_pow]
theorem rsum_l1 (s : ByteArray) (x4 : Int) (r : Int) : ∀ (d : Nat) (c : BitVec 32), d ≤ 8 →
    Ev (fun k => clinkerref01_Sum.l0 k s ((iterB d c).toNat : Int) (wrap64 (x4 + 1))) r →
    Ev (fun k => clinkerref01_Sum.l1 k s (c.toNat : Int) x4 (8 - (d : Int))) r
  | 0, c, _, h => by
    refine Ev.step (f := fun k => clinkerref01_Sum.l0 k s (c.toNat : Int) (wrap64 (x4 + 1))) (fun k => ?_) h
    simp only [clinkerref01_Sum.l1]
    rw [if_neg (by omega)]
  | d + 1, c, hd, h => by
    have ih := rsum_l1 s x4 r d (stepB c) (by omega) h
    have hw : wrap64 (8 - ((d + 1 : Nat) : Int) + 1) = 8 - (d : Int) := by rw [wrap64_in (by omega) (by omega)]; omega
    refine Ev.step (fun k => ?_) ih
    simp only [clinkerref01_Sum.l1]
    rw [if_pos (by omega), hw, rstep]
    rfl
theorem rsum_l0 (s : ByteArray) (hs : s.size ≤ 9223372036854775807) : ∀ (d i : Nat) (c : BitVec 32), i + d = s.size →
    Ev (fun k => clinkerref01_Sum.l0 k s (c.toNat : Int) (i : Int)) ((crcB c (s.data.toList.drop i) ^^^ ones).toNat : Int)
  | 0, i, c, hi => by
    have e : s.data.toList.drop i = [] := List.drop_eq_nil_of_le (by rw [data_length]; omega)
    rw [e]
    refine Ev.step (f := fun _ => some ((crcB c [] ^^^ ones).toNat : Int)) (fun k => ?_) (Ev.now _)
    simp only [clinkerref01_Sum.l0]
    rw [if_neg (by omega)]
    have h2 : (4294967295 : Int) = (ones.toNat : Int) := rfl
    rw [h2, bits_xor64]
    rfl
  | d + 1, i, c, hi => by
    obtain ⟨x, rest, e1, e2, e3⟩ := bt_get s i (by omega)
    have ih := rsum_l0 s hs d (i + 1) (byteB c x) (by omega)
    rw [e1, crcB_cons, ← e2]
    refine Ev.step (f := fun k => clinkerref01_Sum.l1 k s ((c ^^^ BitVec.ofNat 32 x.toNat).toNat : Int) (i : Int) (8 - ((8 : Nat) : Int))) (fun k => ?_) (rsum_l1 s _ _ 8 _ (by omega) ?_)
    · simp only [clinkerref01_Sum.l0]
      rw [if_pos (by omega), if_pos (by omega), e3, byte_i64, bits_xor64]
      rfl
    · have : wrap64 ((i : Int) + 1) = ((i + 1 : Nat) : Int) := by rw [wrap64_in (by omega) (by omega)]; omega
      rw [this]
      exact ih
theorem rsum_ev (s : ByteArray) (hs : s.size ≤ 9223372036854775807) : Ev (fun k => clinkerref01_Sum.f k s) ((sumB s.data.toList).toNat : Int) := by
  have h := rsum_l0 s hs s.size 0 ones (by omega)
  rw [List.drop_zero] at h
  exact Ev.congr (fun k => rfl) h



theorem rd_nat (l : List Int) (i : Nat) : rd l (i : Int) = l.getD i 0 := rfl
/-! Which keys may be -/
theorem any_take_end (p : Int → Bool) (l : List Int) (h : ∀ i, i < l.length → p (l.getD i 0) = false) : l.any p = false := by
  rw [Bool.eq_false_iff]
  intro h2
  obtain ⟨x, hx, hp⟩ := List.any_eq_true.mp h2
  obtain ⟨i, hi, rfl⟩ := List.mem_iff_getElem.mp hx
  have := h i hi
  rw [List.getD_eq_getElem?_getD, List.getElem?_eq_getElem hi] at this
  simp only [Option.getD_some] at this
  rw [this] at hp
  cases hp
theorem noRep_good (l : List Int) (n : Nat) (h : ∀ j, 1 ≤ j → j < n → l.getD (j - 1) 0 ≠ l.getD j 0) : noRep l n = true := by
  induction n with
  | zero => rfl
  | succ n ih =>
    rw [noRep, ih (fun j h1 h2 => h j h1 (by omega)), Bool.true_and]
    by_cases h0 : n = 0
    · subst h0; rfl
    · have : (l.getD n 0 != l.getD (n - 1) 0) = true := bne_iff_ne.mpr (fun e => h n (by omega) (by omega) e.symm)
      rw [this, Bool.or_true]
theorem noRep_bad (l : List Int) {j n : Nat} (hj : 1 ≤ j) (hn : j < n) (hb : l.getD j 0 = l.getD (j - 1) 0) : noRep l n = false := by
  refine noRep_le l (show j + 1 ≤ n by omega) ?_
  rw [noRep_step l j hj]
  have : (l.getD j 0 != l.getD (j - 1) 0) = false := by rw [hb]; simp
  rw [this, Bool.and_false]
theorem keysV_odd {l : List Int} {i : Nat} (hi : i < l.length) (h : oddK (l.getD i 0) = true) : keysV l = false := by
  unfold keysV
  rw [oddK_hit l i hi h]
  simp
theorem keysV_low {l : List Int} {i : Nat} (h1 : 1 ≤ i) (hi : i < l.length) (h : l.getD i 0 ≤ l.getD (i - 1) 0) : keysV l = false := by
  unfold keysV
  by_cases he : l.getD i 0 = l.getD (i - 1) 0
  · rw [noRep_bad l h1 hi he]; simp
  · rw [srt_bad l h1 hi (by omega)]; simp
theorem rkeys_l0 (l : List Int) (hl : l.length ≤ 9223372036854775806) : ∀ (d i : Nat), i + d = l.length → (∀ j, j < i → oddK (l.getD j 0) = false) → (∀ j, 1 ≤ j → j < i → l.getD (j - 1) 0 < l.getD j 0) →
    Ev (fun k => clinkerref03_keys.l0 k l (i : Int)) (keysV l)
  | 0, i, hi, h1, h2 => by
    refine Ev.step (fun k => clinkerref03_keys.l0.eq_2 ..) (Ev.ite_neg (by omega) ?_)
    have e1 : l.any oddK = false := any_take_end oddK l (fun j hj => h1 j (by omega))
    have e2 : srt l l.length = true := srt_good l l.length (fun j hj1 hj2 => by have := h2 j hj1 (by omega); omega)
    have e3 : noRep l l.length = true := noRep_good l l.length (fun j hj1 hj2 => by have := h2 j hj1 (by omega); omega)
    unfold keysV
    rw [e1, e2, e3]
    by_cases hp : (l.length : Int) > 0
    · refine Ev.ite_pos hp ?_
      rw [decide_eq_true (show 0 < (l.length : Int) by omega)]
      simp only [Bool.true_and, Bool.not_false, Bool.and_true]
      exact Ev.now _
    · refine Ev.ite_neg hp ?_
      rw [decide_eq_false (show ¬ 0 < (l.length : Int) by omega)]
      simp only [Bool.false_and]
      exact Ev.now _
  | d + 1, i, hi, h1, h2 => by
    refine Ev.step (fun k => clinkerref03_keys.l0.eq_2 ..) (Ev.ite_pos (by omega) (Ev.ite_pos (by omega) ?_))
    rw [rd_nat]
    by_cases c1 : l.getD i 0 < 0
    · refine Ev.ite_pos c1 ?_
      rw [keysV_odd (by omega) (i := i) (by unfold oddK; rw [decide_eq_true c1]; rfl)]
      exact Ev.now _
    refine Ev.ite_neg c1 ?_
    by_cases c2 : l.getD i 0 ≥ 64
    · refine Ev.ite_pos c2 ?_
      rw [keysV_odd (by omega) (i := i) (by unfold oddK; rw [decide_eq_true (show 64 ≤ l.getD i 0 from c2), Bool.or_true])]
      exact Ev.now _
    refine Ev.ite_neg c2 ?_
    have hodd : oddK (l.getD i 0) = false := by unfold oddK; rw [decide_eq_false c1, decide_eq_false (show ¬ 64 ≤ l.getD i 0 from c2)]; rfl
    have h1' : ∀ j, j < i + 1 → oddK (l.getD j 0) = false := fun j hj => by
      by_cases h : j = i
      · rw [h]; exact hodd
      · exact h1 j (by omega)
    have e4 : wrap64 ((i : Int) + 1) = ((i + 1 : Nat) : Int) := by rw [wrap64_in (by omega) (by omega)]; omega
    rw [e4]
    by_cases c3 : (i : Int) > 0
    · refine Ev.ite_pos c3 ?_
      have e5 : wrap64 ((i : Int) - 1) = ((i - 1 : Nat) : Int) := by rw [wrap64_in (by omega) (by omega)]; omega
      rw [e5, rd_nat]
      refine Ev.ite_pos (by omega) (Ev.ite_pos (by omega) ?_)
      by_cases c4 : l.getD i 0 ≤ l.getD (i - 1) 0
      · refine Ev.ite_pos c4 ?_
        rw [keysV_low (by omega) (by omega) c4]
        exact Ev.now _
      · refine Ev.ite_neg c4 (rkeys_l0 l hl d (i + 1) (by omega) h1' (fun j hj1 hj2 => ?_))
        by_cases h : j = i
        · rw [h]; omega
        · exact h2 j hj1 (by omega)
    · refine Ev.ite_neg c3 (rkeys_l0 l hl d (i + 1) (by omega) h1' (fun j hj1 hj2 => by omega))
theorem rkeys_ev (l : List Int) (hl : l.length ≤ 9223372036854775806) : Ev (fun k => clinkerref03_keys.f k l) (keysV l) :=
  rkeys_l0 l hl l.length 0 (by omega) (fun j hj => by omega) (fun j h1 h2 => by omega)

/-! Which records may be -/
def rightEnd (a : Int) (l m : List Int) : Bool := if a = 2 then ((m.length : Int) == (l.length : Int)) else false
theorem rright_l0 (a b : Int) (l m : List Int) (hm : m.length ≤ 9223372036854775806) : ∀ (d i : Nat), i + d = m.length → (∀ j, j < i → oddV (m.getD j 0) = false) →
    Ev (fun k => clinkerref03_Right.l0 k (i : Int) a b l m) (if m.any oddV = true then false else rightEnd a l m)
  | 0, i, hi, h1 => by
    refine Ev.step (fun k => clinkerref03_Right.l0.eq_2 ..) (Ev.ite_neg (by omega) ?_)
    rw [any_take_end oddV m (fun j hj => h1 j (by omega))]
    show Ev _ (rightEnd a l m)
    unfold rightEnd
    by_cases h2 : a = 2
    · refine Ev.ite_pos h2 ?_
      rw [if_pos h2]
      exact Ev.now _
    · refine Ev.ite_neg h2 ?_
      rw [if_neg h2]
      exact Ev.now _
  | d + 1, i, hi, h1 => by
    refine Ev.step (fun k => clinkerref03_Right.l0.eq_2 ..) (Ev.ite_pos (by omega) (Ev.ite_pos (by omega) ?_))
    rw [rd_nat]
    by_cases c1 : m.getD i 0 < -1
    · refine Ev.ite_pos c1 ?_
      rw [oddV_hit m i (by omega) (by unfold oddV; rw [decide_eq_true c1]; rfl), if_pos rfl]
      exact Ev.now _
    refine Ev.ite_neg c1 ?_
    by_cases c2 : m.getD i 0 ≥ 512
    · refine Ev.ite_pos c2 ?_
      rw [oddV_hit m i (by omega) (by unfold oddV; rw [decide_eq_true (show 512 ≤ m.getD i 0 from c2), Bool.or_true]), if_pos rfl]
      exact Ev.now _
    refine Ev.ite_neg c2 ?_
    have e4 : wrap64 ((i : Int) + 1) = ((i + 1 : Nat) : Int) := by rw [wrap64_in (by omega) (by omega)]; omega
    rw [e4]
    refine rright_l0 a b l m hm d (i + 1) (by omega) (fun j hj => ?_)
    by_cases h : j = i
    · rw [h]; unfold oddV; rw [decide_eq_false c1, decide_eq_false (show ¬ 512 ≤ m.getD i 0 from c2)]; rfl
    · exact h1 j (by omega)
theorem rright_ev (a b : Int) (l m : List Int) (hl : l.length ≤ 9223372036854775806) (hm : m.length ≤ 9223372036854775806) : Ev (fun k => clinkerref03_Right.f k a b l m) (rightV a b l m) := by
  unfold clinkerref03_Right.f rightV
  by_cases c1 : b < 0
  · rw [if_pos c1]
    exact Ev.ite_pos c1 (Ev.step (fun k => clinkerref03_Right.j0.eq_2 ..) (Ev.ite_pos rfl (Ev.now _)))
  rw [if_neg c1]
  refine Ev.ite_neg c1 ?_
  by_cases c2 : b > 1099511627776
  · rw [if_pos (show 1099511627776 < b from c2)]
    exact Ev.ite_pos c2 (Ev.step (fun k => clinkerref03_Right.j0.eq_2 ..) (Ev.ite_pos rfl (Ev.now _)))
  rw [if_neg (show ¬ 1099511627776 < b from c2)]
  refine Ev.ite_neg c2 (Ev.bind (rkeys_ev l hl) ?_)
  refine Ev.step (fun k => clinkerref03_Right.j0.eq_2 ..) ?_
  cases hk : keysV l with
  | false =>
    rw [if_pos rfl]
    exact Ev.ite_pos rfl (Ev.now _)
  | true =>
    rw [if_neg (by simp)]
    refine Ev.ite_neg (by simp) ?_
    by_cases h1 : a = 1
    · refine Ev.ite_pos h1 ?_
      have : (if m.any oddV = true then false else if a = 1 then ((m.length : Int) == 0) else if a = 2 then ((m.length : Int) == (l.length : Int)) else false) = ((m.length : Int) == 0) := by
        rw [if_pos h1]
        by_cases h2 : m.any oddV = true
        · rw [if_pos h2]
          have h3 : m ≠ [] := by intro e; rw [e] at h2; simp at h2
          have h4 : 0 < m.length := List.length_pos_iff.mpr h3
          exact (beq_eq_false_iff_ne.mpr (by omega)).symm
        · rw [if_neg h2]
      rw [this]
      exact Ev.now _
    · refine Ev.ite_neg h1 ?_
      rw [if_neg h1]
      exact rright_l0 a b l m hm m.length 0 (by omega) (fun j hj => by omega)
/-! The tag -/
theorem right_facts {a b : Int} {l m : List Int} (h : rightV a b l m = true) : (a = 1 ∨ a = 2) ∧ 0 ≤ b ∧ b ≤ 1099511627776 ∧ l.length ≤ 8 ∧ m.length ≤ 8 ∧ (∀ x ∈ l, 0 ≤ x ∧ x < 64) ∧ (∀ x ∈ m, -1 ≤ x ∧ x < 512) := by
  unfold rightV at h
  by_cases c1 : b < 0
  · rw [if_pos c1] at h; cases h
  rw [if_neg c1] at h
  by_cases c2 : 1099511627776 < b
  · rw [if_pos c2] at h; cases h
  rw [if_neg c2] at h
  cases hk : keysV l with
  | false => rw [hk, if_pos rfl] at h; cases h
  | true =>
    rw [hk, if_neg (by simp)] at h
    by_cases hv : m.any oddV = true
    · rw [if_pos hv] at h; cases h
    rw [if_neg hv] at h
    have hv : m.any oddV = false := by simpa using hv
    unfold keysV at hk
    rw [Bool.and_eq_true, Bool.and_eq_true, Bool.and_eq_true, decide_eq_true_iff, decide_eq_true_iff] at hk
    obtain ⟨⟨⟨k1, k2⟩, k3⟩, _⟩ := hk
    have k3 : l.any oddK = false := by simpa using k3
    have hl : ∀ x ∈ l, 0 ≤ x ∧ x < 64 := fun x hx => by
      have := List.any_eq_false.mp k3 x hx
      unfold oddK at this
      rw [Bool.or_eq_true, decide_eq_true_iff, decide_eq_true_iff] at this
      omega
    have hm : ∀ x ∈ m, -1 ≤ x ∧ x < 512 := fun x hx => by
      have := List.any_eq_false.mp hv x hx
      unfold oddV at this
      rw [Bool.or_eq_true, decide_eq_true_iff, decide_eq_true_iff] at this
      omega
    by_cases h1 : a = 1
    · rw [if_pos h1] at h
      have := beq_iff_eq.mp h
      exact ⟨.inl h1, by omega, by omega, by omega, by omega, hl, hm⟩
    · rw [if_neg h1] at h
      by_cases h2 : a = 2
      · rw [if_pos h2] at h
        have := beq_iff_eq.mp h
        exact ⟨.inr h2, by omega, by omega, by omega, by omega, hl, hm⟩
      · rw [if_neg h2] at h; cases h
/-- Numbers from nought on, as such. -/
def ns (l : List Int) : List Nat := l.map Int.toNat
theorem ns_back {l : List Int} (h : ∀ x ∈ l, 0 ≤ x) : nats (ns l) = l := by
  induction l with
  | nil => rfl
  | cons x l ih =>
    have h1 := ih (fun y hy => h y (by simp [hy]))
    have h2 := h x (by simp)
    unfold nats ns at h1 ⊢
    simp only [List.map_cons]
    rw [h1, show ((x.toNat : Nat) : Int) = x by omega]
theorem ns_length (l : List Int) : (ns l).length = l.length := by unfold ns; rw [List.length_map]
theorem ns_top {l : List Int} (h : ∀ x ∈ l, x ≤ 1099511627776) : ∀ x ∈ ns l, x ≤ top := by
  intro x hx
  obtain ⟨y, hy, rfl⟩ := List.mem_map.mp hx
  have := h y hy
  unfold top
  omega
theorem packL_len (l : List Nat) (h : ∀ x ∈ l, x ≤ top) (hl : l.length ≤ top) : (packL l).length ≤ 6 + 6 * l.length := by
  have key : ∀ n, n ≤ top → (digs n).length ≤ 6 := fun n hn => by
    have := putI_len (n : Int)
    rwa [putI_nat n hn] at this
  have h1 : (flat l).length ≤ 6 * l.length := by
    clear hl
    induction l with
    | nil => simp [flat]
    | cons x l ih =>
      rw [flat_cons, List.length_append, List.length_cons]
      have := ih (fun y hy => h y (by simp [hy]))
      have := key x (h x (by simp))
      omega
  unfold packL
  rw [List.length_append]
  have := key _ hl
  omega
theorem append_ofL (l : List UInt8) (s : ByteArray) : ofL l ++ s = ofL (l ++ s.data.toList) := by
  conv => lhs; rw [← ofL_of s]
  rw [ofL_append]
/-- A record's bytes, without the sum. -/
def bodyL (a b : Int) (l m : List Int) : List UInt8 := packL (ns [a, b]) ++ packL (ns l) ++ packL (ns (addAll 1 m))
/-- A record's tag. -/
def tagL (a b : Int) (l m : List Int) (d : List UInt8) : List UInt8 := bodyL a b l m ++ four (sumB (bodyL a b l m ++ d)).toNat
def encV (a b : Int) (l m : List Int) (d : ByteArray) : ByteArray × Int :=
  if rightV a b l m = true then (if (d.size : Int) > 16 then ((⟨#[]⟩ : ByteArray), 1) else (ofL (tagL a b l m d.data.toList), 0)) else ((⟨#[]⟩ : ByteArray), 1)
theorem addAll_in {m : List Int} (h : ∀ x ∈ m, -1 ≤ x ∧ x < 512) : ∀ x ∈ addAll 1 m, 0 ≤ x ∧ x ≤ 512 := by
  intro x hx
  obtain ⟨y, hy, rfl⟩ := List.mem_map.mp hx
  have := h y hy
  rw [wrap64_in (by omega) (by omega)]
  omega
theorem addAll_length (d : Int) (m : List Int) : (addAll d m).length = m.length := by unfold addAll; rw [List.length_map]
theorem body_len {a b : Int} {l m : List Int} (h : rightV a b l m = true) : (bodyL a b l m).length ≤ 200 := by
  obtain ⟨h1, h2, h3, h4, h5, h6, h7⟩ := right_facts h
  have g7 := addAll_in h7
  have e1 := packL_len (ns [a, b]) (ns_top (by intro x hx; simp at hx; omega)) (by unfold top; rw [ns_length]; simp)
  have e2 := packL_len (ns l) (ns_top (fun x hx => by have := h6 x hx; omega)) (by unfold top; rw [ns_length]; omega)
  have e3 := packL_len (ns (addAll 1 m)) (ns_top (fun x hx => by have := g7 x hx; omega)) (by unfold top; rw [ns_length, addAll_length]; omega)
  rw [ns_length] at e1 e2 e3
  rw [addAll_length] at e3
  unfold bodyL
  rw [List.length_append, List.length_append]
  simp at e1
  omega
theorem four_len (n : Nat) : (four n).length = 4 := rfl
def crc_Bytes.f (a0 : Int) : Option (ByteArray) := some (if 0 ≤ a0 ∧ a0 < 4294967296 then strOfNums [a0 % 256, a0 / 256 % 256, a0 / 65536 % 256, a0 / 16777216] else ⟨#[]⟩)
theorem bytes_ev (n : Nat) (hn : n < 4294967296) : crc_Bytes.f (n : Int) = some (ofL (four n)) := by
  unfold crc_Bytes.f
  rw [if_pos (by omega)]
  congr 1
  refine bytes_ext ?_
  rw [strOfNums_toList]
  unfold four
  simp only [List.map_cons, List.map_nil]
  rw [show ((n : Int) % 256).toNat = n % 256 by omega, show ((n : Int) / 256 % 256).toNat = n / 256 % 256 by omega, show ((n : Int) / 65536 % 256).toNat = n / 65536 % 256 by omega, show ((n : Int) / 16777216).toNat = n / 16777216 % 256 by omega]
  rfl
theorem rbytes_ev (n : Nat) (hn : n < 4294967296) : clinkerref01_Bytes.f (n : Int) = some (ofL (four n)) := by
  rw [← bytes_ev n hn]
  unfold clinkerref01_Bytes.f crc_Bytes.f
  rw [if_neg (by omega), if_neg (by omega), if_pos (by omega)]
  rw [Int.tdiv_eq_ediv_of_nonneg (by omega), Int.tdiv_eq_ediv_of_nonneg (by omega), Int.tdiv_eq_ediv_of_nonneg (by omega)]
  rw [wrap64_in (by omega) (by omega), wrap64_in (by omega) (by omega), wrap64_in (by omega) (by omega)]
  rw [Int.tmod_eq_emod_of_nonneg (by omega), Int.tmod_eq_emod_of_nonneg (by omega), Int.tmod_eq_emod_of_nonneg (by omega)]
  congr 2
  congr 1
  · omega
  congr 1
  · omega
  congr 1
  · omega
  congr 1
  omega
theorem rpack_ns {l : List Int} (h : ∀ x ∈ l, 0 ≤ x ∧ x ≤ 1099511627776) (hl : l.length ≤ 100) : Ev (fun k => clinkerref02_Pack.f k l) (ofL (packL (ns l)), 0) := by
  have h1 := rpack_ev (nats (ns l)) (by rw [nats_length, ns_length]; omega)
  rw [nats_length, putI_nat _ (show (ns l).length ≤ top by rw [ns_length]; unfold top; omega), packS_nats (ns l) _ (ns_top (fun x hx => (h x hx).2)), ns_back (fun x hx => (h x hx).1)] at h1
  exact h1
theorem sumB_lt (l : List UInt8) : (sumB l).toNat < 4294967296 := (sumB l).isLt
theorem rbody_l0 (h3 : List Int) (a b : Int) (l m : List Int) (r : ByteArray) (hm : m.length ≤ 100) (hend : Ev (fun k => (clinkerref02_Pack.f k h3).bind fun bt194 => ((clinkerref02_Pack.f k l).bind fun bt196 => ((clinkerref02_Pack.f k (addAll 1 m)).bind fun bt198 => (if bt194.1.size + bt196.1.size ≤ 9223372036854775807 then (if (bt194.1 ++ bt196.1).size + bt198.1.size ≤ 9223372036854775807 then (some ((bt194.1 ++ bt196.1) ++ bt198.1)) else (none)) else (none))))) r) :
    ∀ (d i : Nat), i + d = m.length → Ev (fun k => clinkerref03_body.l0 k h3 (addAll 1 (m.take i)) (i : Int) a b l m) r
  | 0, i, hi => by
    refine Ev.step (fun k => clinkerref03_body.l0.eq_2 ..) (Ev.ite_neg (by omega) ?_)
    rw [List.take_of_length_le (by omega)]
    exact hend
  | d + 1, i, hi => by
    refine Ev.step (fun k => clinkerref03_body.l0.eq_2 ..) (Ev.ite_pos (by omega) (Ev.ite_pos (by omega) (Ev.ite_pos (by rw [addAll_length, List.length_take]; omega) ?_)))
    rw [rd_nat, show wrap64 ((i : Int) + 1) = ((i + 1 : Nat) : Int) by rw [wrap64_in (by omega) (by omega)]; omega]
    have e : addAll 1 (m.take i) ++ [wrap64 (m.getD i 0 + 1)] = addAll 1 (m.take (i + 1)) := by
      unfold addAll
      rw [List.take_succ_eq_append_getElem (show i < m.length by omega), List.map_append, List.getD_eq_getElem?_getD, List.getElem?_eq_getElem (show i < m.length by omega)]
      rfl
    rw [e]
    exact rbody_l0 h3 a b l m r hm hend d (i + 1) (by omega)
theorem renc_ev (a b : Int) (l m : List Int) (d : ByteArray) (hl : l.length ≤ 9223372036854775806) (hm : m.length ≤ 9223372036854775806) : Ev (fun k => clinkerref03_Encode.f k a b l m d) (encV a b l m d) := by
  unfold clinkerref03_Encode.f encV
  refine Ev.bind (rright_ev a b l m hl hm) ?_
  cases hr : rightV a b l m with
  | false => exact Ev.ite_neg (by simp) (Ev.step (fun k => clinkerref03_Encode.j0.eq_2 ..) (Ev.ite_pos rfl (Ev.now _)))
  | true =>
    refine Ev.ite_pos rfl (Ev.step (fun k => clinkerref03_Encode.j0.eq_2 ..) ?_)
    show Ev _ (if (d.size : Int) > 16 then ((⟨#[]⟩ : ByteArray), 1) else (ofL (tagL a b l m d.data.toList), 0))
    by_cases hs : (d.size : Int) > 16
    · rw [if_pos hs]
      exact Ev.ite_pos (decide_eq_true hs) (Ev.now _)
    rw [if_neg hs]
    refine Ev.ite_neg (by rw [decide_eq_false hs]; simp) ?_
    obtain ⟨h1, h2, h3, h4, h5, h6, h7⟩ := right_facts hr
    have g7 := addAll_in h7
    have hb := body_len hr
    have hbody : Ev (fun k => clinkerref03_body.f k a b l m) (ofL (bodyL a b l m)) := by
      refine rbody_l0 [a, b] a b l m _ (by omega) ?_ m.length 0 (by omega)
      unfold bodyL at hb ⊢
      rw [List.length_append, List.length_append] at hb
      refine Ev.bind (rpack_ns (l := [a, b]) (by intro x hx; simp at hx; omega) (by simp)) ?_
      refine Ev.bind (rpack_ns (l := l) (fun x hx => by have := h6 x hx; omega) (by omega)) ?_
      refine Ev.bind (rpack_ns (l := addAll 1 m) (fun x hx => by have := g7 x hx; omega) (by rw [addAll_length]; omega)) ?_
      dsimp only
      refine Ev.ite_pos (by rw [ofL_size, ofL_size]; omega) ?_
      rw [ofL_append]
      refine Ev.ite_pos (by rw [ofL_size, ofL_size, List.length_append]; omega) ?_
      rw [ofL_append]
      exact Ev.now _
    refine Ev.bind hbody ?_
    refine Ev.ite_pos (by rw [ofL_size]; omega) ?_
    rw [append_ofL]
    have hsum := rsum_ev (ofL (bodyL a b l m ++ d.data.toList)) (by rw [ofL_size, List.length_append, data_length]; omega)
    rw [ofL_list] at hsum
    refine Ev.bind hsum ?_
    rw [rbytes_ev _ (sumB_lt _)]
    refine Ev.pure_ ?_
    refine Ev.ite_pos (by rw [ofL_size, ofL_size, four_len]; omega) ?_
    rw [ofL_append]
    exact Ev.now _


/-- The record that a tag may be of. -/
def readT (t : List UInt8) : Option (Int × Int × List Int × List Int) :=
  match unpackL t with
  | none => none
  | some (o, r1) => if o.length = 2 then (match unpackL r1 with
    | none => none
    | some (k, r2) => match unpackL r2 with
      | none => none
      | some (v, _) => some ((nats o).getD 0 0, (nats o).getD 1 0, nats k, addAll (-1) (nats v))) else none
theorem unpack_len {l r : List UInt8} {o : List Nat} (h : unpackL l = some (o, r)) : r.length ≤ l.length ∧ o.length ≤ 1099511627776 := by
  obtain ⟨h1, _, h3⟩ := unpack_back h
  unfold top at h3
  have h2 := flat_length o
  rw [h1]
  unfold packL
  rw [List.length_append, List.length_append]
  omega
/-- The record of a tag, with data. -/
def decV (t : List UInt8) (d : ByteArray) : Int × Int × List Int × List Int × Int :=
  match readT t with
  | none => (0, 0, [], [], 30)
  | some (a, b, l, m) => if (encV a b l m d).2 = 0 then (if (encV a b l m d).1.toList = t then (a, b, l, m, 0) else (0, 0, [], [], 30)) else (0, 0, [], [], 30)
/-- What is made of a tag's record. -/
def endV (t : List UInt8) (d : ByteArray) (a b : Int) (l m : List Int) : Int × Int × List Int × List Int × Int :=
  if (encV a b l m d).2 = 0 then (if (encV a b l m d).1.toList = t then (a, b, l, m, 0) else (0, 0, [], [], 30)) else (0, 0, [], [], 30)
theorem rdec_l0 (t : List UInt8) (d : ByteArray) (v : List Int) (hv : v.length ≤ 1099511627776) (a b : Int) (l : List Int) (hl : l.length ≤ 1099511627776) : ∀ (c i : Nat), i + c = v.length →
    Ev (fun k => clinkerref03_Decode.l0 k (ofL t) d v (i : Int) a b l (addAll (-1) (v.take i))) (endV t d a b l (addAll (-1) v))
  | 0, i, hi => by
    refine Ev.step (fun k => clinkerref03_Decode.l0.eq_2 ..) (Ev.ite_neg (by omega) ?_)
    rw [List.take_of_length_le (by omega)]
    refine Ev.bind (renc_ev a b l (addAll (-1) v) d (by omega) (by rw [addAll_length]; omega)) ?_
    unfold endV
    by_cases h2 : (encV a b l (addAll (-1) v) d).2 = 0
    · refine Ev.ite_pos h2 ?_
      rw [if_pos h2, ofL_toList]
      by_cases h3 : (encV a b l (addAll (-1) v) d).1.toList = t
      · refine Ev.ite_pos h3 ?_
        rw [if_pos h3]
        exact Ev.now _
      · refine Ev.ite_neg h3 ?_
        rw [if_neg h3]
        exact Ev.now _
    · refine Ev.ite_neg h2 ?_
      rw [if_neg h2]
      exact Ev.now _
  | c + 1, i, hi => by
    refine Ev.step (fun k => clinkerref03_Decode.l0.eq_2 ..) (Ev.ite_pos (by omega) (Ev.ite_pos (by omega) (Ev.ite_pos (by rw [addAll_length, List.length_take]; omega) ?_)))
    rw [rd_nat, show wrap64 ((i : Int) + 1) = ((i + 1 : Nat) : Int) by rw [wrap64_in (by omega) (by omega)]; omega]
    have e : addAll (-1) (v.take i) ++ [wrap64 (v.getD i 0 - 1)] = addAll (-1) (v.take (i + 1)) := by
      unfold addAll
      rw [List.take_succ_eq_append_getElem (show i < v.length by omega), List.map_append, List.getD_eq_getElem?_getD, List.getElem?_eq_getElem (show i < v.length by omega)]
      rfl
    rw [e]
    exact rdec_l0 t d v hv a b l hl c (i + 1) (by omega)
theorem runpack_len (l : List UInt8) (ht : l.length ≤ 9223372036854775807) : ∃ r, (unpackE (unpackL l)).2.1 = ofL r ∧ r.length ≤ 9223372036854775807 ∧ (unpackE (unpackL l)).1.length ≤ 1099511627776 := by
  cases h : unpackL l with
  | none => exact ⟨[], rfl, by simp, by simp [unpackE]⟩
  | some p =>
    obtain ⟨o, r⟩ := p
    obtain ⟨e1, e2⟩ := unpack_len h
    exact ⟨r, rfl, by omega, by simp only [unpackE]; rw [nats_length]; omega⟩
theorem unpackE_ok {l : List UInt8} (h : (unpackE (unpackL l)).2.2 = 0) : ∃ o r, unpackL l = some (o, r) := by
  cases hu : unpackL l with
  | none => rw [hu] at h; simp [unpackE] at h
  | some p => exact ⟨p.1, p.2, rfl⟩
theorem unpackE_no {l : List UInt8} (h : ¬ (unpackE (unpackL l)).2.2 = 0) : unpackL l = none := by
  cases hu : unpackL l with
  | none => rfl
  | some p => rw [hu] at h; exact absurd rfl h
theorem rdec_ev (t : List UInt8) (ht : t.length ≤ 9223372036854775807) (d : ByteArray) : Ev (fun k => clinkerref03_Decode.f k (ofL t) d) (decV t d) := by
  unfold clinkerref03_Decode.f
  refine Ev.bind (runpack_ofL t (by omega)) ?_
  obtain ⟨r1, q1, s1, n1⟩ := runpack_len t ht
  rw [q1]
  refine Ev.bind (runpack_ofL r1 (by omega)) ?_
  obtain ⟨r2, q2, s2, n2⟩ := runpack_len r1 s1
  rw [q2]
  refine Ev.bind (runpack_ofL r2 (by omega)) ?_
  have bad : ∀ (x6 x9 x11 : List Int), Ev (fun k => clinkerref03_Decode.j0 k (ofL t) d x6 x9 x11 true) ((0, 0, [], [], 30) : Int × Int × List Int × List Int × Int) := fun _ _ _ => Ev.step (fun k => clinkerref03_Decode.j0.eq_2 ..) (Ev.ite_pos rfl (Ev.now _))
  by_cases h1 : (unpackE (unpackL t)).2.2 = 0
  case neg =>
    have e : decV t d = (0, 0, [], [], 30) := by unfold decV readT; rw [unpackE_no h1]
    rw [e]
    exact Ev.ite_neg h1 (bad _ _ _)
  refine Ev.ite_pos h1 ?_
  obtain ⟨o1, p1, u1⟩ := unpackE_ok h1
  rw [u1] at q1 ⊢
  obtain rfl : p1 = r1 := by
    have := congrArg (fun s : ByteArray => s.data.toList) q1
    exact this
  by_cases h2 : (unpackE (unpackL p1)).2.2 = 0
  case neg =>
    have e : decV t d = (0, 0, [], [], 30) := by
      unfold decV readT
      rw [u1]
      dsimp only
      rw [unpackE_no h2]
      split <;> simp_all
    rw [e]
    exact Ev.ite_neg h2 (bad _ _ _)
  refine Ev.ite_pos h2 ?_
  obtain ⟨o2, p2, u2⟩ := unpackE_ok h2
  rw [u2] at q2 ⊢
  obtain rfl : p2 = r2 := congrArg (fun s : ByteArray => s.data.toList) q2
  by_cases h3 : (unpackE (unpackL p2)).2.2 = 0
  case neg =>
    have e : decV t d = (0, 0, [], [], 30) := by
      unfold decV readT
      rw [u1]
      dsimp only
      rw [u2]
      dsimp only
      rw [unpackE_no h3]
      split <;> simp_all
    rw [e]
    exact Ev.ite_neg h3 (bad _ _ _)
  refine Ev.ite_pos h3 ?_
  obtain ⟨o3, p3, u3⟩ := unpackE_ok h3
  rw [u3]
  have g1 := (unpack_len u1).2
  have g2 := (unpack_len u2).2
  have g3 := (unpack_len u3).2
  refine Ev.step (fun k => clinkerref03_Decode.j0.eq_2 ..) ?_
  dsimp only [unpackE]
  by_cases h4 : o1.length = 2
  · refine Ev.ite_neg (by rw [nats_length, h4]; simp) (Ev.ite_pos (by rw [nats_length, h4]; omega) (Ev.ite_pos (by rw [nats_length, h4]; omega) ?_))
    have e : decV t d = endV t d (rd (nats o1) 0) (rd (nats o1) 1) (nats o2) (addAll (-1) (nats o3)) := by
      unfold decV readT
      rw [u1]
      dsimp only
      rw [if_pos h4, u2]
      dsimp only
      rw [u3]
      rfl
    rw [e]
    exact rdec_l0 t d (nats o3) (by rw [nats_length]; omega) _ _ (nats o2) (by rw [nats_length]; omega) (nats o3).length 0 (by omega)
  · have e : decV t d = (0, 0, [], [], 30) := by
      unfold decV readT
      rw [u1]
      dsimp only
      rw [if_neg h4]
    rw [e]
    refine Ev.ite_pos ?_ (Ev.now _)
    rw [nats_length]
    exact bne_iff_ne.mpr (by omega)


theorem keysV_true {l : List Int} (h0 : l ≠ []) (h1 : l.length ≤ 8) (h2 : ∀ x ∈ l, 0 ≤ x ∧ x < 64) (h3 : l.Pairwise (· < ·)) : keysV l = true := by
  have hp : ∀ j, 1 ≤ j → j < l.length → l.getD (j - 1) 0 < l.getD j 0 := fun j hj1 hj2 => by
    rw [List.getD_eq_getElem?_getD, List.getD_eq_getElem?_getD, List.getElem?_eq_getElem (show j - 1 < l.length by omega), List.getElem?_eq_getElem hj2]
    exact (List.pairwise_iff_getElem.mp h3) (j - 1) j (by omega) hj2 (by omega)
  have hlen : 0 < l.length := List.length_pos_iff.mpr h0
  unfold keysV
  rw [decide_eq_true (show 0 < (l.length : Int) by omega), decide_eq_true (show (l.length : Int) ≤ 8 by omega),
    any_take_end oddK l (fun i hi => by
      have hx := h2 (l.getD i 0) (by rw [List.getD_eq_getElem?_getD, List.getElem?_eq_getElem hi]; exact List.getElem_mem hi)
      unfold oddK
      rw [decide_eq_false (by omega), decide_eq_false (by omega)]; rfl),
    srt_good l l.length (fun j a b => by have := hp j a b; omega), noRep_good l l.length (fun j a b => by have := hp j a b; omega)]
  rfl
/-- What the keys and the values of a record by numbers are. -/
theorem madeL_inv (l : List Int) (kind : Int) : ∀ (n : Nat) (key : Int) (j : Nat) (ks vs : List Int), 0 ≤ key → ks.Pairwise (· < ·) → (∀ x ∈ ks, 0 ≤ x ∧ x < 64 ∧ x < key) → (∀ x ∈ vs, -1 ≤ x ∧ x < 512) → (kind = 2 → vs.length = ks.length) → (kind ≠ 2 → vs = []) →
    (madeL l kind n key j ks vs).1.Pairwise (· < ·) ∧ (∀ x ∈ (madeL l kind n key j ks vs).1, 0 ≤ x ∧ x < 64) ∧ (∀ x ∈ (madeL l kind n key j ks vs).2, -1 ≤ x ∧ x < 512) ∧ (kind = 2 → (madeL l kind n key j ks vs).2.length = (madeL l kind n key j ks vs).1.length) ∧ (kind ≠ 2 → (madeL l kind n key j ks vs).2 = []) ∧
      ks.length ≤ (madeL l kind n key j ks vs).1.length ∧ (madeL l kind n key j ks vs).1.length ≤ ks.length + n
  | 0, key, j, ks, vs, h0, h1, h2, h3, h4, h5 => ⟨h1, fun x hx => ⟨(h2 x hx).1, (h2 x hx).2.1⟩, h3, h4, h5, Nat.le_refl _, Nat.le_refl _⟩
  | n + 1, key, j, ks, vs, h0, h1, h2, h3, h4, h5 => by
    rw [madeL]
    by_cases hk : key < 64
    · rw [if_pos hk]
      have hp := pk_in l j (n := 10) (by omega)
      have g1 : (ks ++ [key]).Pairwise (· < ·) := by
        rw [List.pairwise_append]
        exact ⟨h1, List.pairwise_singleton _ _, fun x hx y hy => by rw [List.mem_singleton] at hy; rw [hy]; exact (h2 x hx).2.2⟩
      have g2 : ∀ x ∈ ks ++ [key], 0 ≤ x ∧ x < 64 ∧ x < key + 1 + pk l j 10 := fun x hx => by
        rcases List.mem_append.mp hx with h | h
        · have := h2 x h; omega
        · rw [List.mem_singleton] at h; omega
      by_cases h : kind = 2
      · rw [if_pos h]
        have hq := pk_in l (j + 1) (n := 513) (by omega)
        obtain ⟨r1, r2, r3, r4, r5, r6, r7⟩ := madeL_inv l kind n (key + 1 + pk l j 10) (j + 2) (ks ++ [key]) (vs ++ [pk l (j + 1) 513 - 1]) (by omega) g1 g2 (fun x hx => by
          rcases List.mem_append.mp hx with h | h
          · exact h3 x h
          · rw [List.mem_singleton] at h; omega) (fun _ => by rw [List.length_append, List.length_append, h4 h]; rfl) (fun hn => absurd h hn)
        rw [List.length_append] at r6 r7
        exact ⟨r1, r2, r3, r4, r5, by omega, by simp at r7; omega⟩
      · rw [if_neg h]
        obtain ⟨r1, r2, r3, r4, r5, r6, r7⟩ := madeL_inv l kind n (key + 1 + pk l j 10) (j + 1) (ks ++ [key]) vs (by omega) g1 g2 h3 (fun e => absurd e h) h5
        rw [List.length_append] at r6 r7
        exact ⟨r1, r2, r3, r4, r5, by omega, by simp at r7; omega⟩
    · rw [if_neg hk]
      exact ⟨h1, fun x hx => ⟨(h2 x hx).1, (h2 x hx).2.1⟩, h3, h4, h5, Nat.le_refl _, Nat.le_add_right _ _⟩
theorem madeL_pos (l : List Int) (kind : Int) (n : Nat) (key : Int) (j : Nat) (hn : 1 ≤ n) (h0 : 0 ≤ key) (hk : key < 64) : 1 ≤ (madeL l kind n key j [] []).1.length := by
  obtain ⟨n, rfl⟩ : ∃ m, n = m + 1 := ⟨n - 1, by omega⟩
  have hp := pk_in l j (n := 10) (by omega)
  have hq := pk_in l (j + 1) (n := 513) (by omega)
  rw [madeL, if_pos hk]
  by_cases h : kind = 2
  · rw [if_pos h]
    exact (madeL_inv l kind n (key + 1 + pk l j 10) (j + 2) ([] ++ [key]) ([] ++ [pk l (j + 1) 513 - 1]) (by omega) (List.pairwise_singleton _ _) (fun x hx => by simp at hx; omega) (fun x hx => by simp at hx; omega) (fun _ => rfl) (fun hn => absurd h hn)).2.2.2.2.2.1
  · rw [if_neg h]
    exact (madeL_inv l kind n (key + 1 + pk l j 10) (j + 1) ([] ++ [key]) [] (by omega) (List.pairwise_singleton _ _) (fun x hx => by simp at hx; omega) (fun x hx => by simp at hx) (fun e => absurd e h) (fun _ => rfl)).2.2.2.2.2.1
theorem made_facts (l : List Int) : rightV (madeV l).1 (madeV l).2.1 (madeV l).2.2.1 (madeV l).2.2.2 = true ∧ 1 ≤ (madeV l).2.2.1.length ∧ (madeV l).2.2.1.length ≤ 8 ∧ (madeV l).2.2.2.length ≤ 8 ∧ (madeV l).1 < 128 ∧ (madeV l).2.1 < 268435456 := by
  have i0 := pk_in l 0 (n := 2) (by omega)
  have i1 := pk_in l 1 (n := 60000) (by omega)
  have i2 := pk_in l 2 (n := 1000) (by omega)
  have i3 := pk_in l 3 (n := 20) (by omega)
  have i4 := pk_in l 4 (n := 8) (by omega)
  obtain ⟨r1, r2, r3, r4, r5, r6, r7⟩ := madeL_inv l (1 + pk l 0 2) (pk l 4 8 + 1).toNat (pk l 3 20) 5 [] [] (by omega) List.Pairwise.nil (fun x hx => by simp at hx) (fun x hx => by simp at hx) (fun _ => rfl) (fun _ => rfl)
  have r8 := madeL_pos l (1 + pk l 0 2) (pk l 4 8 + 1).toNat (pk l 3 20) 5 (by omega) (by omega) (by omega)
  have hq : 0 ≤ pk l 1 60000 * (1 + pk l 2 1000) ∧ pk l 1 60000 * (1 + pk l 2 1000) ≤ 60000 * 1000 := ⟨Int.mul_nonneg (by omega) (by omega), Int.mul_le_mul (by omega) (by omega) (by omega) (by omega)⟩
  have e1 : (madeV l).1 = 1 + pk l 0 2 := rfl
  have e2 : (madeV l).2.1 = pk l 1 60000 * (1 + pk l 2 1000) := rfl
  have e3 : (madeV l).2.2.1 = (madeL l (1 + pk l 0 2) (pk l 4 8 + 1).toNat (pk l 3 20) 5 [] []).1 := rfl
  have e4 : (madeV l).2.2.2 = (madeL l (1 + pk l 0 2) (pk l 4 8 + 1).toNat (pk l 3 20) 5 [] []).2 := rfl
  rw [e1, e2, e3, e4]
  generalize (madeL l (1 + pk l 0 2) (pk l 4 8 + 1).toNat (pk l 3 20) 5 [] []) = r at *
  have h8 : r.1.length ≤ 8 := by simp at r7; omega
  have h9 : r.2.length ≤ 8 := by
    by_cases h : 1 + pk l 0 2 = 2
    · rw [r4 h]; exact h8
    · rw [r5 h]; simp
  refine ⟨?_, r8, h8, h9, by omega, by omega⟩
  unfold rightV
  rw [if_neg (by omega), if_neg (by omega), keysV_true (List.length_pos_iff.mp r8) h8 r2 r1, if_neg (by simp),
    any_take_end oddV r.2 (fun i hi => by
      have hx := r3 (r.2.getD i 0) (by rw [List.getD_eq_getElem?_getD, List.getElem?_eq_getElem hi]; exact List.getElem_mem hi)
      unfold oddV
      rw [decide_eq_false (by omega), decide_eq_false (by omega)]; rfl), if_neg (by simp)]
  by_cases h : 1 + pk l 0 2 = 1
  · rw [if_pos h, r5 (by omega)]
    rfl
  · rw [if_neg h, if_pos (show 1 + pk l 0 2 = 2 by omega), r4 (by omega)]
    exact beq_iff_eq.mpr rfl


/-- What a tag that is told again is. -/
theorem decV_ok {t : List UInt8} {d : ByteArray} (hd : d.size ≤ 16) (h : (decV t d).2.2.2.2 = 0) : ∃ a b l m, readT t = some (a, b, l, m) ∧ rightV a b l m = true ∧ t = tagL a b l m d.data.toList := by
  unfold decV at h
  cases h1 : readT t with
  | none => rw [h1] at h; simp at h
  | some p =>
    obtain ⟨a, b, l, m⟩ := p
    rw [h1] at h
    dsimp only at h
    by_cases h2 : (encV a b l m d).2 = 0
    · rw [if_pos h2] at h
      by_cases h3 : (encV a b l m d).1.toList = t
      · refine ⟨a, b, l, m, rfl, ?_⟩
        unfold encV at h2 h3
        by_cases hr : rightV a b l m = true
        · rw [if_pos hr, if_neg (by omega)] at h3
          exact ⟨hr, by rw [← h3]; exact ofL_toList _⟩
        · rw [if_neg hr] at h2
          simp at h2
      · rw [if_neg h3] at h; simp at h
    · rw [if_neg h2] at h; simp at h
end Go.Proofs.Ytfolonajajideaa.X
