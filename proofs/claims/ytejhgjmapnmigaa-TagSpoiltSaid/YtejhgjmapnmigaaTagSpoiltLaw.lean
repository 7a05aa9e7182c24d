/- The statement TagSpoilt over numbers, lists and texts alone. -/
import Derived.Test.YtejhgjmapnmigaaTagMadeP
import Derived.Test.YtejhgjmapnmigaaTagAll
import Derived.Test.YtejhgjmapnmigaaTagSpC
namespace Go.Proofs.Ytejhgjmapnmigaa.X
open Go.RowKit Go.Proofs.Ytejhgjmapnmigaa.PAll Go.Proofs.YtejhgjmapnmigaaW.PrintWords Go.Proofs.YtejhgjmapnmigaaW.PrintLast Go.Proofs.YtejhgjmapnmigaaW.PrintMore

theorem add_back {m : List Int} (h : ∀ x ∈ m, -1 ≤ x ∧ x < 512) : addAll (-1) (addAll 1 m) = m := by
  induction m with
  | nil => rfl
  | cons x m ih =>
    have h1 := ih (fun y hy => h y (by simp [hy]))
    have h2 := h x (by simp)
    unfold addAll at h1 ⊢
    simp only [List.map_cons]
    rw [h1, wrap64_in (i := x + 1) (by omega) (by omega), wrap64_in (by omega) (by omega)]
    congr 1
    omega
theorem read_tag {a b : Int} {l m : List Int} (h : rightV a b l m = true) (r : List UInt8) : readV (bodyL a b l m ++ r) = some (a, b, l, m) := by
  obtain ⟨h1, h2, h3, h4, h5, h6, h7⟩ := right_facts h
  have g7 := addAll_in h7
  have e1 : nats (ns [a, b]) = [a, b] := ns_back (by intro x hx; simp at hx; omega)
  have e2 : nats (ns l) = l := ns_back (fun x hx => (h6 x hx).1)
  have e3 : nats (ns (addAll 1 m)) = addAll 1 m := ns_back (fun x hx => (g7 x hx).1)
  unfold readV bodyL
  rw [List.append_assoc, List.append_assoc]
  rw [unpack_pack (ns [a, b]) (ns_top (by intro x hx; simp at hx; omega)) (by unfold top; rw [ns_length]; simp)]
  dsimp only
  rw [if_pos (by rw [ns_length]; rfl), unpack_pack (ns l) (ns_top (fun x hx => by have := h6 x hx; omega)) (by unfold top; rw [ns_length]; omega)]
  dsimp only
  rw [unpack_pack (ns (addAll 1 m)) (ns_top (fun x hx => by have := g7 x hx; omega)) (by unfold top; rw [ns_length, addAll_length]; omega)]
  dsimp only
  rw [e1, e2, e3, add_back h7]
  rfl
theorem enc_ok {a b : Int} {l m : List Int} (h : rightV a b l m = true) (d : ByteArray) (hd : d.size ≤ 16) : encV a b l m d = (ofL (tagL a b l m d.data.toList), 0) := by
  unfold encV
  rw [h, if_pos rfl, if_neg (by omega)]
theorem dec_tag {a b : Int} {l m : List Int} (h : rightV a b l m = true) (d : ByteArray) (hd : d.size ≤ 16) : decV (tagL a b l m d.data.toList) d = (a, b, l, m, 0) := by
  unfold decV
  have hr : readV (tagL a b l m d.data.toList) = some (a, b, l, m) := read_tag h _
  rw [hr]
  dsimp only
  rw [enc_ok h d hd, if_pos rfl, if_pos (ofL_toList _)]
theorem tag_small {a b : Int} {l m : List Int} (h : rightV a b l m = true) (d : List UInt8) : (tagL a b l m d).length ≤ 300 := by
  have := body_len h
  unfold tagL
  rw [List.length_append, four_len]
  omega
/-! One byte that is another one -/
theorem one_off {s : BitVec 32} {u v : List UInt8} {c c' : UInt8} (h : crcB s (u ++ c :: v) = crcB s (u ++ c' :: v)) : c = c' := by
  rw [crcB_append, crcB_append, crcB_cons, crcB_cons] at h
  exact byteB_sep _ _ _ (crcB_inj v _ _ h)
theorem ofNat_inj {a b : Nat} (ha : a < 256) (hb : b < 256) (h : UInt8.ofNat a = UInt8.ofNat b) : a = b := by
  have := congrArg UInt8.toNat h
  rwa [byte_nat a ha, byte_nat b hb] at this
theorem four_inj {a b : Nat} (ha : a < 4294967296) (hb : b < 4294967296) (h : four a = four b) : a = b := by
  unfold four at h
  simp only [List.cons.injEq] at h
  obtain ⟨h1, h2, h3, h4, _⟩ := h
  have e1 := ofNat_inj (by omega) (by omega) h1
  have e2 := ofNat_inj (by omega) (by omega) h2
  have e3 := ofNat_inj (by omega) (by omega) h3
  have e4 := ofNat_inj (by omega) (by omega) h4
  omega
theorem sum_inj {x y : List UInt8} (h : four (sumB x).toNat = four (sumB y).toNat) : crcB ones x = crcB ones y := by
  have h1 := four_inj (sumB_lt x) (sumB_lt y) h
  have h2 : sumB x = sumB y := BitVec.eq_of_toNat_eq h1
  unfold sumB at h2
  have h3 := congrArg (· ^^^ ones) h2
  simpa [BitVec.xor_assoc] using h3
/-- What a tag that is told again is. -/
theorem decV_ok {t : List UInt8} {d : ByteArray} (hd : d.size ≤ 16) (h : (decV t d).2.2.2.2 = 0) : ∃ a b l m, readV t = some (a, b, l, m) ∧ rightV a b l m = true ∧ t = tagL a b l m d.data.toList := by
  unfold decV at h
  cases h1 : readV t with
  | none => rw [h1] at h; simp at h
  | some p =>
    obtain ⟨a, b, l, m⟩ := p
    rw [h1] at h
    dsimp only at h
    by_cases h2 : (encV a b l m d).2 = 0
    · rw [if_pos h2] at h
      by_cases h3 : (encV a b l m d).1.toList = t
      · refine ⟨a, b, l, m, rfl, ?_⟩
        unfold encV at h2 h3
        by_cases hr : rightV a b l m = true
        · rw [if_pos hr, if_neg (by omega)] at h3
          exact ⟨hr, by rw [← h3]; exact ofL_toList _⟩
        · rw [if_neg hr] at h2
          simp at h2
      · rw [if_neg h3] at h; simp at h
    · rw [if_neg h2] at h; simp at h
/-- Whatever stands behind a record's bytes but its sum's own is no tag. -/
theorem dec_else {a b : Int} {l m : List Int} (hr : rightV a b l m = true) (d : ByteArray) (hd : d.size ≤ 16) (r : List UInt8) (hne : r ≠ four (sumB (bodyL a b l m ++ d.data.toList)).toNat) : ¬ (decV (bodyL a b l m ++ r) d).2.2.2.2 = 0 := by
  intro h
  obtain ⟨a', b', l', m', h1, h2, h3⟩ := decV_ok hd h
  rw [read_tag hr r] at h1
  have h4 := Option.some.inj h1
  simp only [Prod.mk.injEq] at h4
  obtain ⟨rfl, rfl, rfl, rfl⟩ := h4
  unfold tagL at h3
  exact hne (List.append_cancel_left h3)
/-- A tag with one byte that is another one is none. -/
theorem dec_spoilt {a b : Int} {l m : List Int} (hr : rightV a b l m = true) (d : ByteArray) (hd : d.size ≤ 16) (u v : List UInt8) (c c' : UInt8) (ht : tagL a b l m d.data.toList = u ++ c :: v) (hc : c ≠ c') : ¬ (decV (u ++ c' :: v) d).2.2.2.2 = 0 := by
  intro h
  by_cases hp : (bodyL a b l m).length ≤ u.length
  · -- the byte is the sum's
    have e1 : bodyL a b l m = u.take (bodyL a b l m).length := by
      have := congrArg (List.take (bodyL a b l m).length) ht
      unfold tagL at this
      rw [List.take_left, List.take_append_of_le_length hp] at this
      exact this
    have e2 : u ++ c' :: v = bodyL a b l m ++ (u.drop (bodyL a b l m).length ++ c' :: v) := by
      conv => lhs; rw [← List.take_append_drop (bodyL a b l m).length u]
      rw [← e1, List.append_assoc]
    have e3 : four (sumB (bodyL a b l m ++ d.data.toList)).toNat = u.drop (bodyL a b l m).length ++ c :: v := by
      have := congrArg (List.drop (bodyL a b l m).length) ht
      unfold tagL at this
      rw [List.drop_left, List.drop_append_of_le_length hp] at this
      exact this
    rw [e2] at h
    refine dec_else hr d hd _ ?_ h
    rw [e3]
    intro h2
    have := List.append_cancel_left h2
    simp only [List.cons.injEq] at this
    exact hc this.1.symm
  · obtain ⟨a', b', l', m', h1, h2, h3⟩ := decV_ok hd h
    have hlen : (bodyL a' b' l' m').length = (bodyL a b l m).length := by
      have q1 := congrArg List.length ht
      have q2 := congrArg List.length h3
      unfold tagL at q1 q2
      simp only [List.length_append, List.length_cons, four_len] at q1 q2
      omega
    obtain ⟨w, hw⟩ : ∃ w, bodyL a b l m = u ++ c :: w := by
      have := congrArg (List.take (bodyL a b l m).length) ht
      unfold tagL at this
      rw [List.take_left, List.take_append, List.take_of_length_le (show u.length ≤ (bodyL a b l m).length by omega)] at this
      obtain ⟨k, hk⟩ : ∃ k, (bodyL a b l m).length - u.length = k + 1 := ⟨(bodyL a b l m).length - u.length - 1, by omega⟩
      rw [hk, List.take_succ_cons] at this
      exact ⟨_, this⟩
    have hv : v = w ++ four (sumB (bodyL a b l m ++ d.data.toList)).toNat := by
      unfold tagL at ht
      conv at ht => lhs; rw [hw]
      rw [List.append_assoc, List.cons_append] at ht
      have := List.append_cancel_left ht
      simp only [List.cons.injEq, true_and] at this
      rw [← this, hw]
    have hb' : bodyL a' b' l' m' = u ++ c' :: w ∧ four (sumB (bodyL a b l m ++ d.data.toList)).toNat = four (sumB (bodyL a' b' l' m' ++ d.data.toList)).toNat := by
      unfold tagL at h3
      rw [hv] at h3
      have h4 : (u ++ c' :: w) ++ four (sumB (bodyL a b l m ++ d.data.toList)).toNat = bodyL a' b' l' m' ++ four (sumB (bodyL a' b' l' m' ++ d.data.toList)).toNat := by
        rw [← h3, List.append_assoc, List.cons_append]
      have h5 := List.append_inj h4 (by rw [hlen, hw]; simp)
      exact ⟨h5.1.symm, h5.2⟩
    have h6 := sum_inj hb'.2
    rw [hb'.1, hw, List.append_assoc, List.append_assoc, List.cons_append, List.cons_append] at h6
    exact hc (one_off h6)
/-- Nor is it one with a byte of the data that is another one. -/
theorem dec_data {a b : Int} {l m : List Int} (hr : rightV a b l m = true) (d d' : ByteArray) (hd' : d'.size ≤ 16) (u v : List UInt8) (c c' : UInt8) (h1 : d.data.toList = u ++ c :: v) (h2 : d'.data.toList = u ++ c' :: v) (hc : c ≠ c') : ¬ (decV (tagL a b l m d.data.toList) d').2.2.2.2 = 0 := by
  have := dec_else hr d' hd' (four (sumB (bodyL a b l m ++ d.data.toList)).toNat) (by
    intro h
    have h3 := sum_inj h
    rw [h1, h2, ← List.append_assoc, ← List.append_assoc] at h3
    exact hc (one_off h3))
  exact this
theorem decV_30 (t : List UInt8) (d : ByteArray) : (decV t d).2.2.2.2 = 0 ∨ (decV t d).2.2.2.2 = 30 := by
  unfold decV
  split
  · exact .inr rfl
  · split
    · split
      · exact .inl rfl
      · exact .inr rfl
    · exact .inr rfl
theorem wf_u8 {a : Int} (h : (Lit.int .u8 a).wf = true) : 0 ≤ a ∧ a ≤ 255 := by
  have hmin : IntKind.u8.min = 0 := rfl
  have hmax : IntKind.u8.max = 255 := rfl
  simp only [Lit.wf, Bool.and_eq_true, decide_eq_true_eq] at h
  omega
theorem cut_to (s : ByteArray) (j : Nat) : s.extract 0 j = ofL (s.data.toList.take j) := by
  apply bytes_ext
  rw [ofL_list]
  simp only [ByteArray.data_extract, Array.toList_extract, List.extract_eq_take_drop]
  simp
/-- A text with one byte turned on. -/
def turned (p b : Nat) : Nat → List UInt8 → List UInt8
  | _, [] => []
  | i, x :: l => (if i = p then UInt8.ofNat ((x.toNat + b) % 256) else x) :: turned p b (i + 1) l
theorem turned_snoc (p b : Nat) (x : UInt8) : ∀ (l : List UInt8) (i : Nat), turned p b i (l ++ [x]) = turned p b i l ++ [if i + l.length = p then UInt8.ofNat ((x.toNat + b) % 256) else x]
  | [], i => by simp [turned]
  | y :: l, i => by
    have := turned_snoc p b x l (i + 1)
    simp only [List.cons_append, turned, this, List.length_cons]
    rw [show i + 1 + l.length = i + (l.length + 1) by omega]
theorem turned_length (p b : Nat) : ∀ (l : List UInt8) (i : Nat), (turned p b i l).length = l.length
  | [], _ => rfl
  | _ :: l, i => by simp [turned, turned_length p b l (i + 1)]
theorem turned_off (p b : Nat) : ∀ (l : List UInt8) (i : Nat), p < i → turned p b i l = l
  | [], _, _ => rfl
  | x :: l, i, h => by
    simp only [turned]
    rw [if_neg (by omega), turned_off p b l (i + 1) (by omega)]
theorem turned_split (p b : Nat) : ∀ (l : List UInt8) (i : Nat), i ≤ p → p < i + l.length → ∃ u c v, l = u ++ c :: v ∧ turned p b i l = u ++ UInt8.ofNat ((c.toNat + b) % 256) :: v
  | [], i, h1, h2 => by simp at h2; omega
  | x :: l, i, h1, h2 => by
    by_cases e : i = p
    · exact ⟨[], x, l, rfl, by simp only [turned, List.nil_append]; rw [if_pos e, turned_off p b l (i + 1) (by omega)]⟩
    · obtain ⟨u, c, v, e1, e2⟩ := turned_split p b l (i + 1) (by omega) (by simp at h2; omega)
      exact ⟨x :: u, c, v, by rw [e1]; rfl, by simp only [turned, List.cons_append]; rw [if_neg e, e2]⟩
theorem turned_ne (c : UInt8) (b : Nat) (h1 : 0 < b) (h2 : b < 256) : c ≠ UInt8.ofNat ((c.toNat + b) % 256) := by
  intro h
  have h3 := congrArg UInt8.toNat h
  rw [byte_nat _ (Nat.mod_lt _ (by omega))] at h3
  have := c.toNat_lt
  omega
theorem change_l0 (s : ByteArray) (hs : s.size ≤ 140737488351232) (p b : Nat) (hb : b < 256) : ∀ (e i : Nat), i + e = s.size →
    Ev (fun k => clinkerlaw03_change.l0 k s (p : Int) (b : Int) (ints (turned p b 0 (s.data.toList.take i))) (i : Int)) (ofL (turned p b 0 s.data.toList))
  | 0, i, hi => by
    have e0 : s.data.toList.take i = s.data.toList := List.take_of_length_le (by rw [data_length]; omega)
    rw [e0]
    refine Ev.step (fun k => clinkerlaw03_change.l0.eq_2 ..) (Ev.ite_neg (by omega) ?_)
    rw [str_ofL]
    exact Ev.now _
  | e + 1, i, hi => by
    have ih := change_l0 s hs p b hb e (i + 1) (by omega)
    obtain ⟨x, hx, ex⟩ := bt_val s i (by omega)
    have hx8 := x.toNat_lt
    have hl : i < s.data.toList.length := by rw [data_length]; omega
    have et : s.data.toList.take (i + 1) = s.data.toList.take i ++ [x] := by
      rw [List.take_succ_eq_append_getElem hl]
      congr 2
      rw [List.getElem?_eq_getElem hl] at hx
      exact Option.some.inj hx
    have le : (s.data.toList.take i).length = i := by rw [List.length_take]; omega
    rw [et, turned_snoc, Nat.zero_add, le] at ih
    refine Ev.step (fun k => clinkerlaw03_change.l0.eq_2 ..) ?_
    refine Ev.ite_pos (by omega) (Ev.ite_pos (by omega) ?_)
    have lx : (ints (turned p b 0 (s.data.toList.take i))).length = i := by rw [ints_length, turned_length, le]
    rw [ex, show wrap64 ((i : Int) + 1) = ((i + 1 : Nat) : Int) by rw [wrap64_in (by omega) (by omega)]; omega]
    rw [wrap64_in (i := (x.toNat : Int)) (by omega) (by omega), wrap64_in (i := (x.toNat : Int) + (b : Int)) (by omega) (by omega)]
    by_cases hp : i = p
    · rw [if_pos hp] at ih
      refine Ev.ite_pos (by omega) (Ev.ite_pos (by omega) ?_)
      have ev : Int.tmod ((x.toNat : Int) + (b : Int)) 256 % 256 = ((UInt8.ofNat ((x.toNat + b) % 256)).toNat : Int) := by
        rw [byte_nat _ (Nat.mod_lt _ (by omega)), Int.tmod_eq_emod_of_nonneg (by omega)]
        omega
      rw [ev, ints_snoc]
      exact ih
    · rw [if_neg hp] at ih
      refine Ev.ite_neg (by omega) (Ev.ite_pos (by omega) ?_)
      rw [show (x.toNat : Int) % 256 = (x.toNat : Int) by omega, ints_snoc]
      exact ih
theorem change_ev (s : ByteArray) (hs : s.size ≤ 140737488351232) (_h0 : 0 < s.size) (p q : Int) (hp : 0 ≤ p ∧ p ≤ 255) (hq : 0 ≤ q ∧ q ≤ 255) :
    Ev (fun k => clinkerlaw03_change.f k s (Int.tmod (wrap64 p) (s.size : Int)) (wrap64 (1 + Int.tmod (wrap64 q) 255))) (ofL (turned (p.toNat % s.size) (1 + q.toNat % 255) 0 s.data.toList)) := by
  have em : Int.tmod (wrap64 p) (s.size : Int) = ((p.toNat % s.size : Nat) : Int) := by
    rw [wrap64_in (by omega) (by omega), Int.tmod_eq_emod_of_nonneg hp.1, Int.natCast_emod, Int.toNat_of_nonneg hp.1]
  have eb : wrap64 (1 + Int.tmod (wrap64 q) 255) = ((1 + q.toNat % 255 : Nat) : Int) := by
    rw [wrap64_in (i := q) (by omega) (by omega), Int.tmod_eq_emod_of_nonneg hq.1, wrap64_in (by omega) (by omega)]
    omega
  rw [em, eb]
  unfold clinkerlaw03_change.f
  exact change_l0 s hs _ _ (by omega) s.size 0 (Nat.zero_add _)
theorem dec_no {t : List UInt8} {d : ByteArray} (h : ¬ (decV t d).2.2.2.2 = 0) : (decV t d).2.2.2.2 = 30 := (decV_30 t d).resolve_left h
theorem tagSpoilt_j1 (d : ByteArray) (hd : d.size ≤ 16) {a b : Int} {l m : List Int} (hr : rightV a b l m = true) (p q : Int) (hp : 0 ≤ p ∧ p ≤ 255) (hq : 0 ≤ q ∧ q ≤ 255) :
    Ev (fun k => clinkerlaw03_TagSpoilt.j1 k d p q true (ofL (tagL a b l m d.data.toList)) false) true := by
  have hs := tag_small hr d.data.toList
  have hl : (tagL a b l m d.data.toList).length = (bodyL a b l m).length + 4 := by unfold tagL; rw [List.length_append, four_len]
  -- a byte turned on
  have k1 : ∀ i, i < (tagL a b l m d.data.toList).length → (decV (turned i (1 + q.toNat % 255) 0 (tagL a b l m d.data.toList)) d).2.2.2.2 = 30 := by
    intro i hi
    obtain ⟨u, c, v, e1, e2⟩ := turned_split i (1 + q.toNat % 255) (tagL a b l m d.data.toList) 0 (Nat.zero_le _) (by omega)
    rw [e2]
    exact dec_no (dec_spoilt hr d hd u v c _ e1 (turned_ne c _ (by omega) (by omega)))
  -- a byte too many
  have k2 : (decV (tagL a b l m d.data.toList ++ [0]) d).2.2.2.2 = 30 := by
    have := dec_no (dec_else hr d hd (four (sumB (bodyL a b l m ++ d.data.toList)).toNat ++ [0]) (by
      intro h
      have := congrArg List.length h
      rw [List.length_append, four_len] at this
      simp at this))
    unfold tagL
    rw [List.append_assoc]
    exact this
  -- a byte too few
  have k3 : (decV ((tagL a b l m d.data.toList).take ((tagL a b l m d.data.toList).length - 1)) d).2.2.2.2 = 30 := by
    have := dec_no (dec_else hr d hd ((four (sumB (bodyL a b l m ++ d.data.toList)).toNat).take 3) (by
      intro h
      have := congrArg List.length h
      rw [List.length_take, four_len] at this
      simp at this))
    rw [hl]
    unfold tagL
    rw [List.take_append, List.take_of_length_le (by omega), show (bodyL a b l m).length + 4 - 1 - (bodyL a b l m).length = 3 by omega]
    exact this
  -- another text beside it
  have k4 : ∀ i, i < d.size → (decV (tagL a b l m d.data.toList) (ofL (turned i (1 + q.toNat % 255) 0 d.data.toList))).2.2.2.2 = 30 := by
    intro i hi
    obtain ⟨u, c, v, e1, e2⟩ := turned_split i (1 + q.toNat % 255) d.data.toList 0 (Nat.zero_le _) (by rw [data_length]; omega)
    refine dec_no (dec_data hr d _ ?_ u v c _ e1 ?_ (turned_ne c (1 + q.toNat % 255) (by omega) (by omega)))
    · rw [ofL_size, turned_length, data_length]; omega
    · rw [ofL_list]; exact e2
  generalize hT : tagL a b l m d.data.toList = T at *
  have h0 : 0 < T.length := by omega
  refine Ev.step (fun k => clinkerlaw03_TagSpoilt.j1.eq_2 ..) (Ev.ite_neg (by simp) (Ev.ite_neg (by rw [ofL_size]; omega) ?_))
  refine Ev.bind (change_ev (ofL T) (by rw [ofL_size]; omega) (by rw [ofL_size]; omega) p q hp hq) ?_
  rw [ofL_list, ofL_size]
  refine Ev.bind (dec_ev _ (by rw [turned_length]; omega) d (by omega)) ?_
  rw [k1 _ (Nat.mod_lt _ h0), show (⟨#[0]⟩ : ByteArray) = ofL [0] from rfl, ofL_append]
  refine Ev.ite_pos (by omega) (Ev.bind (dec_ev _ (by rw [List.length_append]; simp; omega) d (by omega)) ?_)
  rw [k2, show wrap64 ((T.length : Int) - 1) = ((T.length - 1 : Nat) : Int) by rw [wrap64_in (by omega) (by omega)]; omega]
  refine Ev.ite_pos (by omega) (Ev.ite_pos (by omega) ?_)
  rw [Int.toNat_natCast, cut_to, ofL_list]
  refine Ev.bind (dec_ev _ (by rw [List.length_take]; omega) d (by omega)) ?_
  rw [k3]
  by_cases hz : d.toList = ([] : List UInt8)
  · refine Ev.ite_pos hz (Ev.ite_pos rfl (Ev.ite_pos rfl (Ev.ite_pos rfl ?_)))
    exact Ev.now true
  · have hd0 : 0 < d.size := by
      rcases Nat.eq_zero_or_pos d.size with h | h
      · exact absurd (by rw [toList_eq]; exact List.length_eq_zero_iff.mp (by rw [data_length]; exact h)) hz
      · exact h
    refine Ev.ite_neg hz (Ev.ite_neg (by omega) (Ev.bind (change_ev d (by omega) hd0 p q hp hq) (Ev.bind (dec_ev T (by omega) _ (by rw [ofL_size, turned_length, data_length]; omega)) ?_)))
    rw [k4 _ (Nat.mod_lt _ hd0)]
    refine Ev.ite_pos rfl (Ev.ite_pos rfl (Ev.ite_pos rfl (Ev.ite_pos rfl ?_)))
    exact Ev.now true
theorem tagSpoilt_j0 (l : List Int) (hw : ∀ x ∈ l, (Lit.int .u16 x).wf = true) (d : ByteArray) (hd : d.size ≤ 16) (p q : Int) (hp : 0 ≤ p ∧ p ≤ 255) (hq : 0 ≤ q ∧ q ≤ 255) : Ev (fun k => clinkerlaw03_TagSpoilt.j0 k l d p q true) true := by
  obtain ⟨f0, f1, f2, f3, f4, f5⟩ := made_facts l
  refine Ev.step (fun k => clinkerlaw03_TagSpoilt.j0.eq_2 ..) ?_
  rw [made_f l hw]
  refine Ev.pure_ (Ev.bind (enc_ev _ _ _ _ d (by omega) (by omega)) ?_)
  rw [enc_ok f0 d hd]
  refine Ev.ite_pos rfl ?_
  dsimp only
  rw [ofL_toList]
  have hl : (tagL (madeV l).1 (madeV l).2.1 (madeV l).2.2.1 (madeV l).2.2.2 d.data.toList).length = (bodyL (madeV l).1 (madeV l).2.1 (madeV l).2.2.1 (madeV l).2.2.2).length + 4 := by unfold tagL; rw [List.length_append, four_len]
  have hne : (tagL (madeV l).1 (madeV l).2.1 (madeV l).2.2.1 (madeV l).2.2.2 d.data.toList == ([] : List UInt8)) = false := by
    rw [beq_eq_false_iff_ne]
    intro h
    rw [h] at hl
    simp at hl
  rw [hne]
  exact tagSpoilt_j1 d hd f0 p q hp hq
theorem law_TagSpoilt : clinkerlaw03_TagSpoilt.Pure := by
  intro l0 a1 a2 a3 _ _ hw hd w2 w3
  refine Ev.rounds (g := fun k => clinkerlaw03_TagSpoilt.f k l0 a1 a2 a3) ?_
  unfold clinkerlaw03_TagSpoilt.f
  rw [awake_f]
  refine Ev.pure_ (Ev.ite_pos rfl ?_)
  by_cases h : (a1.size : Int) > 16
  · refine Ev.ite_pos h (Ev.ite_pos (by omega) (Ev.ite_pos (by omega) (tagSpoilt_j0 l0 hw _ ?_ a2 a3 (wf_u8 w2) (wf_u8 w3))))
    rw [ByteArray.size_extract]
    omega
  · exact Ev.ite_neg h (tagSpoilt_j0 l0 hw _ (by omega) a2 a3 (wf_u8 w2) (wf_u8 w3))
end Go.Proofs.Ytejhgjmapnmigaa.X
