/- Packed numbers, in plain words: what packs (chapter 2, over this seat). -/
import Derived.Test.YtejhgjmapnmigaaPackMath
import Derived.Test.YtejhgjmapnmigaaPAllx6
import Derived.Test.YtejhgjmapnmigaaPAllx14
import Derived.Test.YtejhgjmapnmigaaPAllx15
import Derived.Test.YtejhgjmapnmigaaPAllx12
namespace Go.Proofs.Ytejhgjmapnmigaa.X
open Go.RowKit Go.Proofs.Ytejhgjmapnmigaa.PAll Go.Proofs.YtejhgjmapnmigaaW.PrintWords Go.Proofs.YtejhgjmapnmigaaW.PrintLast Go.Proofs.YtejhgjmapnmigaaW.PrintMore

/-! Put -/
def putI (x : Int) : List UInt8 := if 0 ≤ x ∧ x ≤ 1099511627776 then digs x.toNat else []
theorem putI_nat (n : Nat) (h : n ≤ top) : putI (n : Int) = digs n := by
  unfold putI top at *
  rw [if_pos (by omega), Int.toNat_natCast]
theorem byte_mod (n : Nat) (h : n < 128) : ((n : Int) % 256) = ((UInt8.ofNat n).toNat : Int) := by
  rw [byte_nat n (by omega)]; omega
theorem put_l0 : ∀ (n : Nat) (pre : List UInt8), pre.length + n < 140737488355328 → Ev (fun k => pack_Put.l0 k (n : Int) (ints pre)) (ofL (pre ++ digs n)) := by
  intro n
  induction n using Nat.strongRecOn with
  | _ n ih =>
    intro pre hl
    refine Ev.step (fun k => pack_Put.l0.eq_2 ..) ?_
    by_cases h : n < 128
    · rw [digs_small h]
      refine Ev.ite_neg (by omega) (Ev.ite_pos (by rw [ints_length]; omega) ?_)
      rw [byte_mod n h, ints_snoc, str_ofL]
      exact Ev.now _
    · rw [digs_more h]
      have := ih (n / 128) (by omega) (pre ++ [UInt8.ofNat (128 + n % 128)]) (by simp; omega)
      rw [List.append_assoc, List.singleton_append] at this
      refine Ev.ite_pos (by omega) (Ev.ite_pos (by rw [ints_length]; omega) ?_)
      rw [or128, ints_snoc]
      exact this
theorem put_ev (x : Int) : Ev (fun k => pack_Put.f k x) (ofL (putI x)) := by
  unfold pack_Put.f putI
  by_cases h0 : x < 0
  · rw [if_neg (by omega)]
    exact Ev.ite_pos h0 (Ev.step (fun k => pack_Put.j0.eq_2 ..) (Ev.ite_pos rfl (Ev.now _)))
  · refine Ev.ite_neg h0 (Ev.step (fun k => pack_Put.j0.eq_2 ..) ?_)
    by_cases h1 : x > 1099511627776
    · rw [if_neg (by omega)]
      exact Ev.ite_pos (decide_eq_true h1) (Ev.now _)
    · rw [if_pos (by omega)]
      refine Ev.ite_neg (by rw [decide_eq_true_iff]; exact h1) ?_
      have := put_l0 x.toNat [] (by simp; omega)
      rw [Int.toNat_of_nonneg (by omega)] at this
      exact this

theorem rput_l0 : ∀ (n : Nat) (pre : List UInt8), pre.length + n < 140737488355328 → Ev (fun k => clinkerref02_Put.l0 k (n : Int) (ofL pre)) (ofL (pre ++ digs n)) := by
  intro n
  induction n using Nat.strongRecOn with
  | _ n ih =>
    intro pre hl
    refine Ev.step (fun k => clinkerref02_Put.l0.eq_2 ..) ?_
    by_cases h : n < 128
    · rw [digs_small h]
      refine Ev.ite_neg (by omega) (Ev.pure_ ?_)
      have e : strOfNums [(n : Int) % 256] = ofL [UInt8.ofNat n] := by
        rw [byte_mod n h]
        exact str_ofL [UInt8.ofNat n]
      rw [e, ofL_append, ofL_size, ofL_size]
      exact Ev.ite_pos (by simp; omega) (Ev.now _)
    · rw [digs_more h]
      have := ih (n / 128) (by omega) (pre ++ [UInt8.ofNat (128 + n % 128)]) (by simp; omega)
      rw [List.append_assoc, List.singleton_append] at this
      refine Ev.ite_pos (by omega) (Ev.pure_ ?_)
      have e1 : wrap64 (128 + Int.tmod (n : Int) 128) % 256 = ((UInt8.ofNat (128 + n % 128)).toNat : Int) := by
        rw [byte_nat _ (by omega), Int.tmod_eq_emod_of_nonneg (by omega), wrap64_in (by omega) (by omega)]
        omega
      have e2 : wrap64 (Int.tdiv (n : Int) 128) = ((n / 128 : Nat) : Int) := by
        rw [Int.tdiv_eq_ediv_of_nonneg (by omega), wrap64_in (by omega) (by omega)]
        omega
      have e : strOfNums [wrap64 (128 + Int.tmod (n : Int) 128) % 256] = ofL [UInt8.ofNat (128 + n % 128)] := by
        rw [e1]
        exact str_ofL [UInt8.ofNat (128 + n % 128)]
      rw [e, e2, ofL_append, ofL_size, ofL_size]
      exact Ev.ite_pos (by simp; omega) this
theorem rput_ev (x : Int) : Ev (fun k => clinkerref02_Put.f k x) (ofL (putI x)) := by
  unfold clinkerref02_Put.f putI
  by_cases h0 : x < 0
  · rw [if_neg (by omega)]
    exact Ev.ite_pos h0 (Ev.step (fun k => clinkerref02_Put.j0.eq_2 ..) (Ev.ite_pos rfl (Ev.now _)))
  · refine Ev.ite_neg h0 (Ev.step (fun k => clinkerref02_Put.j0.eq_2 ..) ?_)
    by_cases h1 : x > 1099511627776
    · rw [if_neg (by omega)]
      exact Ev.ite_pos (decide_eq_true h1) (Ev.now _)
    · rw [if_pos (by omega)]
      refine Ev.ite_neg (by rw [decide_eq_true_iff]; exact h1) ?_
      have := rput_l0 x.toNat [] (by simp; omega)
      rw [Int.toNat_of_nonneg (by omega)] at this
      exact this

/-! Pack -/
def packS : List Int → List UInt8 → Option (List UInt8)
  | [], acc => some acc
  | x :: l, acc => if putI x = [] then none else packS l (acc ++ putI x)
def packE : Option (List UInt8) → ByteArray × Int
  | some l => (ofL l, 0)
  | none => (⟨#[]⟩, 1)
theorem putI_len (x : Int) : (putI x).length ≤ 6 := by
  unfold putI
  split
  · rename_i h
    have key : ∀ (j n : Nat), n < 128 ^ (j + 1) → (digs n).length ≤ j + 1 := by
      intro j
      induction j with
      | zero => intro n hn; rw [digs_small (by omega)]; simp
      | succ j ih =>
        intro n hn
        by_cases h : n < 128
        · rw [digs_small h]; simp
        · rw [digs_more h, List.length_cons]
          have h2 : 128 ^ (j + 1 + 1) = 128 * 128 ^ (j + 1) := pow_i (j + 1)
          have := ih (n / 128) (by omega)
          omega
    exact key 5 x.toNat (by omega)
  · simp
theorem drop_rd (l : List Int) (i : Nat) (h : i < l.length) : l.drop i = rd l (i : Int) :: l.drop (i + 1) := by
  rw [List.drop_eq_getElem_cons h]
  congr 1
  unfold rd
  rw [Int.toNat_natCast, List.getD_eq_getElem?_getD, List.getElem?_eq_getElem h]
  rfl
theorem pack_l0 (l : List Int) (hl : l.length ≤ 9223372036854775807) : ∀ (d i : Nat) (acc : List UInt8), i + d = l.length → acc.length + 6 * d ≤ 9223372036854775807 →
    Ev (fun k => pack_Pack.l0 k (ofL acc) l (l.length : Int) (i : Int)) (packE (packS (l.drop i) acc))
  | 0, i, acc, hi, _ => by
    rw [List.drop_eq_nil_of_le (by omega)]
    refine Ev.step (fun k => pack_Pack.l0.eq_2 ..) (Ev.ite_neg (by omega) ?_)
    exact Ev.now _
  | d + 1, i, acc, hi, ha => by
    rw [drop_rd l i (by omega)]
    have h6 := putI_len (rd l (i : Int))
    refine Ev.step (fun k => pack_Pack.l0.eq_2 ..) (Ev.ite_pos (by omega) (Ev.ite_pos (by omega) (Ev.ite_pos (by omega) (Ev.bind (put_ev _) ?_))))
    rw [ofL_toList]
    simp only [packS]
    by_cases h : putI (rd l (i : Int)) = []
    · rw [if_pos h]
      exact Ev.ite_pos h (Ev.now _)
    · rw [if_neg h]
      have := pack_l0 l hl d (i + 1) (acc ++ putI (rd l (i : Int))) (by omega) (by rw [List.length_append]; omega)
      refine Ev.ite_neg h ?_
      rw [ofL_size, ofL_size, ofL_append, wrap64_in (by omega) (by omega)]
      exact Ev.ite_pos (by omega) this
theorem pack_ev (l : List Int) (hl : l.length * 6 + 6 ≤ 9223372036854775807) : Ev (fun k => pack_Pack.f k l) (packE (packS l (putI (l.length : Int)))) := by
  unfold pack_Pack.f
  have h6 := putI_len (l.length : Int)
  have := pack_l0 l (by omega) l.length 0 (putI (l.length : Int)) (by omega) (by omega)
  rw [List.drop_zero] at this
  exact Ev.bind (put_ev _) this
theorem rpack_l0 (l : List Int) (hl : l.length ≤ 9223372036854775807) : ∀ (d i : Nat) (acc : List UInt8), i + d = l.length → acc.length + 6 * d ≤ 9223372036854775807 →
    Ev (fun k => clinkerref02_Pack.l0 k l (ofL acc) (i : Int)) (packE (packS (l.drop i) acc))
  | 0, i, acc, hi, _ => by
    rw [List.drop_eq_nil_of_le (by omega)]
    refine Ev.step (fun k => clinkerref02_Pack.l0.eq_2 ..) (Ev.ite_neg (by omega) ?_)
    exact Ev.now _
  | d + 1, i, acc, hi, ha => by
    rw [drop_rd l i (by omega)]
    have h6 := putI_len (rd l (i : Int))
    refine Ev.step (fun k => clinkerref02_Pack.l0.eq_2 ..) (Ev.ite_pos (by omega) (Ev.ite_pos (by omega) (Ev.bind (rput_ev _) ?_)))
    rw [ofL_toList]
    simp only [packS]
    by_cases h : putI (rd l (i : Int)) = []
    · rw [if_pos h]
      exact Ev.ite_pos h (Ev.now _)
    · rw [if_neg h]
      have := rpack_l0 l hl d (i + 1) (acc ++ putI (rd l (i : Int))) (by omega) (by rw [List.length_append]; omega)
      refine Ev.ite_neg h ?_
      rw [ofL_size, ofL_size, ofL_append, wrap64_in (by omega) (by omega)]
      exact Ev.ite_pos (by omega) this
theorem rpack_ev (l : List Int) (hl : l.length * 6 + 6 ≤ 9223372036854775807) : Ev (fun k => clinkerref02_Pack.f k l) (packE (packS l (putI (l.length : Int)))) := by
  unfold clinkerref02_Pack.f
  have h6 := putI_len (l.length : Int)
  have := rpack_l0 l (by omega) l.length 0 (putI (l.length : Int)) (by omega) (by omega)
  rw [List.drop_zero] at this
  exact Ev.bind (rput_ev _) this
/-- Natural numbers as Go's. -/
def nats (l : List Nat) : List Int := l.map fun (n : Nat) => (n : Int)
theorem nats_length (l : List Nat) : (nats l).length = l.length := by unfold nats; rw [List.length_map]
theorem packS_nats : ∀ (l : List Nat) (acc : List UInt8), (∀ x ∈ l, x ≤ top) → packS (nats l) acc = some (acc ++ flat l)
  | [], acc, _ => by simp [nats, packS, flat]
  | x :: l, acc, h => by
    have hx := h x (by simp)
    have := packS_nats l (acc ++ digs x) (fun y hy => h y (by simp [hy]))
    unfold nats at this ⊢
    simp only [List.map_cons, packS]
    rw [putI_nat x hx, if_neg (digs_ne x), this, flat_cons, List.append_assoc]
theorem pack_nats (l : List Nat) (h : ∀ x ∈ l, x ≤ top) (hl : l.length ≤ top) : Ev (fun k => pack_Pack.f k (nats l)) (ofL (packL l), 0) := by
  have h1 := pack_ev (nats l) (by rw [nats_length]; unfold top at hl; omega)
  rw [nats_length, putI_nat _ hl, packS_nats l _ h] at h1
  exact h1

/-! Two lists that are the same -/
theorem same_l0 (l : List Int) (hl : l.length ≤ 9223372036854775806) : ∀ (d i : Nat), i + d = l.length → Ev (fun k => clinkerref02_Same.l0 k l l (i : Int)) true
  | 0, i, hi => Ev.step (fun k => clinkerref02_Same.l0.eq_2 ..) (Ev.ite_neg (by omega) (Ev.now _))
  | d + 1, i, hi => by
    have ih := same_l0 l hl d (i + 1) (by omega)
    refine Ev.step (fun k => clinkerref02_Same.l0.eq_2 ..) (Ev.ite_pos (by omega) (Ev.ite_pos (by omega) (Ev.ite_pos (by omega) (Ev.ite_pos rfl ?_))))
    rw [wrap64_in (by omega) (by omega)]
    exact ih
theorem same_ev (l : List Int) (hl : l.length ≤ 9223372036854775806) : Ev (fun k => clinkerref02_Same.f k l l) true :=
  Ev.ite_pos rfl (same_l0 l hl l.length 0 (by omega))
end Go.Proofs.Ytejhgjmapnmigaa.X
