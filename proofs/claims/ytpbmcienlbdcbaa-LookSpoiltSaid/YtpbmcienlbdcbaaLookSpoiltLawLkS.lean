/- The statement LookSpoilt over lists and texts alone. -/
import Derived.Test.YtpbmcienlbdcbaaLkS
import Derived.Test.YtpbmcienlbdcbaaPAllx20
namespace Go.Proofs.Ytpbmcienlbdcbaa.X
open Go.RowKit Go.Proofs.Ytpbmcienlbdcbaa.PAll Go.Proofs.YtpbmcienlbdcbaaW.PrintWords Go.Proofs.YtpbmcienlbdcbaaW.PrintLast Go.Proofs.YtpbmcienlbdcbaaW.PrintMore

theorem bits_xor8 (a b : UInt8) : Go.bits .xor .u8 (a.toNat : Int) (b.toNat : Int) = ((a ^^^ b).toNat : Int) := by
  show IntKind.u8.wrap ((BitVec.ofInt 8 (a.toNat : Int) ^^^ BitVec.ofInt 8 (b.toNat : Int)).toNat : Int) = _
  have ha := a.toNat_lt
  have hb := b.toNat_lt
  have hx : a.toNat ^^^ b.toNat < 2 ^ 8 := Nat.xor_lt_two_pow (by omega) (by omega)
  rw [BitVec.ofInt_natCast, BitVec.ofInt_natCast, BitVec.toNat_xor, BitVec.toNat_ofNat, BitVec.toNat_ofNat, UInt8.toNat_xor]
  rw [Nat.mod_eq_of_lt (by omega), Nat.mod_eq_of_lt (by omega), IntKind.wrap_u8]
  omega
def spoil (at_ : Nat) (by_ : UInt8) : Nat → List UInt8 → List UInt8
  | _, [] => []
  | i, x :: l => (if i = at_ then x ^^^ by_ else x) :: spoil at_ by_ (i + 1) l
theorem spoil_snoc (p : Nat) (b : UInt8) (x : UInt8) : ∀ (l : List UInt8) (i : Nat), spoil p b i (l ++ [x]) = spoil p b i l ++ [if i + l.length = p then x ^^^ b else x]
  | [], i => by simp [spoil]
  | y :: l, i => by
    have := spoil_snoc p b x l (i + 1)
    simp only [List.cons_append, spoil, this, List.length_cons]
    rw [show i + 1 + l.length = i + (l.length + 1) by omega]
theorem spoil_length (p : Nat) (b : UInt8) : ∀ (l : List UInt8) (i : Nat), (spoil p b i l).length = l.length
  | [], _ => rfl
  | _ :: l, i => by simp [spoil, spoil_length p b l (i + 1)]
theorem spoil_off (p : Nat) (b : UInt8) : ∀ (l : List UInt8) (i : Nat), p < i → spoil p b i l = l
  | [], _, _ => rfl
  | x :: l, i, h => by
    simp only [spoil]
    rw [if_neg (by omega), spoil_off p b l (i + 1) (by omega)]
theorem xor_byte (x b : UInt8) (h : x ^^^ b = x) : b = 0 := by
  have := congrArg (fun z => x ^^^ z) h
  simpa [← UInt8.xor_assoc] using this
theorem spoil_split (p : Nat) (b : UInt8) : ∀ (l : List UInt8) (i : Nat), i ≤ p → p < i + l.length → ∃ u c v, l = u ++ c :: v ∧ spoil p b i l = u ++ (c ^^^ b) :: v
  | [], i, h1, h2 => by simp at h2; omega
  | x :: l, i, h1, h2 => by
    by_cases e : i = p
    · exact ⟨[], x, l, rfl, by simp only [spoil, List.nil_append]; rw [if_pos e, spoil_off p b l (i + 1) (by omega)]⟩
    · obtain ⟨u, c, v, e1, e2⟩ := spoil_split p b l (i + 1) (by omega) (by simp at h2; omega)
      exact ⟨x :: u, c, v, by rw [e1]; rfl, by simp only [spoil, List.cons_append]; rw [if_neg e, e2]⟩
theorem or_one : ∀ n : Fin 256, Go.bits .or .u8 ((n.val : Nat) : Int) 1 = ((UInt8.ofNat (n.val ||| 1)).toNat : Int) ∧ UInt8.ofNat (n.val ||| 1) ≠ 0 := by decide +kernel
theorem wf_u8 {a : Int} (h : (Lit.int .u8 a).wf = true) : 0 ≤ a ∧ a ≤ 255 := by
  have hmin : IntKind.u8.min = 0 := rfl
  have hmax : IntKind.u8.max = 255 := rfl
  simp only [Lit.wf, Bool.and_eq_true, decide_eq_true_eq] at h
  omega
theorem spoilt_l0 (d s : ByteArray) (hs : s.size ≤ 300) (a c : Int) (b : UInt8) (ha0 : 0 ≤ a) (ha : a ≤ 255) (hb : Go.bits .or .u8 c 1 = (b.toNat : Int)) (hbad : ¬ (decV (spoil (a.toNat % s.size) b 0 s.data.toList) d).2.2.2.2 = 0) : ∀ (e i : Nat), i + e = s.size →
    Ev (fun k => clinkerlaw04_LookSpoilt.l0 k a c true (ints (spoil (a.toNat % s.size) b 0 (s.data.toList.take i))) (i : Int) true d s) true
  | 0, i, hi => by
    have e0 : s.data.toList.take i = s.data.toList := List.take_of_length_le (by rw [data_length]; omega)
    rw [e0]
    refine Ev.step (fun k => clinkerlaw04_LookSpoilt.l0.eq_2 ..) (Ev.ite_neg (by omega) ?_)
    rw [str_ofL]
    refine Ev.bind (look_ev true d _ (by rw [ofL_size, spoil_length, data_length]; omega)) (Ev.ite_pos rfl ?_)
    unfold lookV
    rw [if_pos rfl, ofL_list, if_neg hbad]
    exact Ev.now true
  | e + 1, i, hi => by
    have ih := spoilt_l0 d s hs a c b ha0 ha hb hbad e (i + 1) (by omega)
    obtain ⟨x, hx, ex⟩ := bt_val s i (by omega)
    have hl : i < s.data.toList.length := by rw [data_length]; omega
    have et : s.data.toList.take (i + 1) = s.data.toList.take i ++ [x] := by
      rw [List.take_succ_eq_append_getElem hl]
      congr 2
      rw [List.getElem?_eq_getElem hl] at hx
      exact Option.some.inj hx
    have le : (s.data.toList.take i).length = i := by rw [List.length_take]; omega
    rw [et, spoil_snoc, Nat.zero_add, le] at ih
    have em : Int.tmod (wrap64 a) (s.size : Int) = ((a.toNat % s.size : Nat) : Int) := by
      rw [wrap64_in (by omega) (by omega), Int.tmod_eq_emod_of_nonneg ha0, Int.natCast_emod, Int.toNat_of_nonneg ha0]
    refine Ev.step (fun k => clinkerlaw04_LookSpoilt.l0.eq_2 ..) ?_
    refine Ev.ite_pos (by omega) (Ev.ite_pos (by omega) (Ev.ite_neg (by omega) ?_))
    rw [em, ex, hb, show wrap64 ((i : Int) + 1) = ((i + 1 : Nat) : Int) by rw [wrap64_in (by omega) (by omega)]; omega]
    have lx : (ints (spoil (a.toNat % s.size) b 0 (s.data.toList.take i))).length = i := by rw [ints_length, spoil_length, le]
    by_cases hp : i = a.toNat % s.size
    · rw [if_pos hp] at ih
      refine Ev.ite_pos (by omega) (Ev.ite_pos (by omega) ?_)
      rw [bits_xor8, ints_snoc]
      exact ih
    · rw [if_neg hp] at ih
      refine Ev.ite_neg (by omega) (Ev.ite_pos (by omega) ?_)
      rw [ints_snoc]
      exact ih
theorem make_ev (d : ByteArray) (a b : Int) (l m : List Int) (hr : rightV a b l m = true) (hd : d.size ≤ 16) : Ev (fun k => look_Make.f k d a b l m) (true, d, ofL (tagL a b l m d.data.toList), 0) := by
  obtain ⟨h1, h2, h3, h4, h5, h6, h7⟩ := right_facts hr
  unfold look_Make.f
  refine Ev.bind (enc_ev a b l m d (by omega)) ?_
  rw [enc_ok hr d hd]
  exact Ev.ite_pos rfl (Ev.now _)
theorem lookSpoilt_j0 (l : List Int) (hw : ∀ x ∈ l, (Lit.int .u16 x).wf = true) (d : ByteArray) (hd : d.size ≤ 16) (a c : Int) (ha : 0 ≤ a ∧ a ≤ 255) (hc : 0 ≤ c ∧ c ≤ 255) : Ev (fun k => clinkerlaw04_LookSpoilt.j0 k l d a c true) true := by
  obtain ⟨f0, f1, f2, f3, f4, f5⟩ := made_facts l
  have hs := tag_small f0 d.data.toList
  have hpos : 4 ≤ (tagL (madeV l).1 (madeV l).2.1 (madeV l).2.2.1 (madeV l).2.2.2 d.data.toList).length := by
    unfold tagL
    rw [List.length_append, four_len]
    omega
  refine Ev.step (fun _ => clinkerlaw04_LookSpoilt.j0.eq_2 ..) ?_
  rw [made_f l hw]
  refine Ev.pure_ (Ev.bind (make_ev d _ _ _ _ f0 hd) ?_)
  dsimp only
  refine Ev.bind (look_ev true d _ (by rw [ofL_size]; omega)) (Ev.ite_pos rfl ?_)
  have hlv : lookV true d (ofL (tagL (madeV l).1 (madeV l).2.1 (madeV l).2.2.1 (madeV l).2.2.2 d.data.toList)) = (1, (madeV l).1, (madeV l).2.1, (madeV l).2.2.1, (madeV l).2.2.2) := by
    unfold lookV
    rw [if_pos rfl, ofL_list, dec_tag f0 d hd, if_pos rfl]
  rw [hlv]
  dsimp only
  refine Ev.ite_pos rfl (Ev.bind (rsame_ev _ _ _ _ _ _ _ _ (by omega) (by omega)) ?_)
  rw [decide_eq_true ⟨rfl, rfl, rfl, rfl⟩]
  refine Ev.ite_pos rfl (Ev.step (fun _ => clinkerlaw04_LookSpoilt.j1.eq_2 ..) ?_)
  rw [ofL_toList]
  have hne : (tagL (madeV l).1 (madeV l).2.1 (madeV l).2.2.1 (madeV l).2.2.2 d.data.toList == ([] : List UInt8)) = false := by
    rw [beq_eq_false_iff_ne]
    intro h
    rw [h] at hpos
    simp at hpos
  rw [hne]
  refine Ev.ite_neg (by simp) ?_
  obtain ⟨n, rfl⟩ : ∃ n : Nat, c = (n : Int) := ⟨c.toNat, by omega⟩
  obtain ⟨o1, o2⟩ := or_one ⟨n, by omega⟩
  refine spoilt_l0 d (ofL (tagL (madeV l).1 (madeV l).2.1 (madeV l).2.2.1 (madeV l).2.2.2 d.data.toList)) (by rw [ofL_size]; exact hs) a (n : Int) _ ha.1 ha.2 o1 ?_ _ 0 (Nat.zero_add _)
  rw [ofL_list, ofL_size]
  obtain ⟨u, x, v, e1, e2⟩ := spoil_split (a.toNat % (tagL (madeV l).1 (madeV l).2.1 (madeV l).2.2.1 (madeV l).2.2.2 d.data.toList).length) (UInt8.ofNat (n ||| 1)) (tagL (madeV l).1 (madeV l).2.1 (madeV l).2.2.1 (madeV l).2.2.2 d.data.toList) 0 (Nat.zero_le _) (by have := Nat.mod_lt a.toNat (show 0 < (tagL (madeV l).1 (madeV l).2.1 (madeV l).2.2.1 (madeV l).2.2.2 d.data.toList).length by omega); omega)
  rw [e2]
  exact dec_spoilt f0 d hd u v x _ e1 (fun h => o2 (xor_byte x _ h.symm))
theorem law_LookSpoilt : clinkerlaw04_LookSpoilt.Pure := by
  intro l0 a1 a2 a3 _ _ hw h1 w2 w3
  refine Ev.rounds (g := fun k => clinkerlaw04_LookSpoilt.f k l0 a1 a2 a3) ?_
  unfold clinkerlaw04_LookSpoilt.f
  rw [show clinkerlaw04_awake.f = some true from rfl]
  refine Ev.pure_ (Ev.ite_pos rfl ?_)
  by_cases h : (a1.size : Int) > 16
  · refine Ev.ite_pos h (Ev.ite_pos (by omega) (Ev.ite_pos (by omega) (lookSpoilt_j0 l0 hw _ ?_ a2 a3 (wf_u8 w2) (wf_u8 w3))))
    rw [ByteArray.size_extract]
    omega
  · exact Ev.ite_neg h (lookSpoilt_j0 l0 hw _ (by omega) a2 a3 (wf_u8 w2) (wf_u8 w3))
end Go.Proofs.Ytpbmcienlbdcbaa.X
