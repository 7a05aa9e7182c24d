/- The statement TagDecode over texts alone. -/
import Derived.Test.YtejhgjmapnmigaaTagAll
import Derived.Test.YtejhgjmapnmigaaTagPackC
import Derived.Test.YtejhgjmapnmigaaPAllx13
import Derived.Test.YtejhgjmapnmigaaPAllx20
namespace Go.Proofs.Ytejhgjmapnmigaa.X
open Go.RowKit Go.Proofs.Ytejhgjmapnmigaa.PAll Go.Proofs.YtejhgjmapnmigaaW.PrintWords Go.Proofs.YtejhgjmapnmigaaW.PrintLast Go.Proofs.YtejhgjmapnmigaaW.PrintMore

/-- What is made of a tag's record. -/
def endV (t : List UInt8) (d : ByteArray) (a b : Int) (l m : List Int) : Int × Int × List Int × List Int × Int :=
  if (encV a b l m d).2 = 0 then (if (encV a b l m d).1.toList = t then (a, b, l, m, 0) else (0, 0, [], [], 30)) else (0, 0, [], [], 30)
theorem rdec_l0 (t : List UInt8) (d : ByteArray) (hd : d.size ≤ 140737488351232) (v : List Int) (hv : v.length ≤ 100000) (a b : Int) (l : List Int) (hl : l.length ≤ 100000) : ∀ (c i : Nat), i + c = v.length →
    Ev (fun k => clinkerref03_Decode.l0 k (ofL t) d v (i : Int) a b l (addAll (-1) (v.take i))) (endV t d a b l (addAll (-1) v))
  | 0, i, hi => by
    refine Ev.step (fun k => clinkerref03_Decode.l0.eq_2 ..) (Ev.ite_neg (by omega) ?_)
    rw [List.take_of_length_le (by omega)]
    refine Ev.bind (renc_ev a b l (addAll (-1) v) d (by omega) (by rw [addAll_length]; omega) hd) ?_
    unfold endV
    by_cases h2 : (encV a b l (addAll (-1) v) d).2 = 0
    · refine Ev.ite_pos h2 ?_
      rw [if_pos h2, ofL_toList]
      by_cases h3 : (encV a b l (addAll (-1) v) d).1.toList = t
      · refine Ev.ite_pos h3 ?_
        rw [if_pos h3]
        exact Ev.now _
      · refine Ev.ite_neg h3 ?_
        rw [if_neg h3]
        exact Ev.now _
    · refine Ev.ite_neg h2 ?_
      rw [if_neg h2]
      exact Ev.now _
  | c + 1, i, hi => by
    refine Ev.step (fun k => clinkerref03_Decode.l0.eq_2 ..) (Ev.ite_pos (by omega) (Ev.ite_pos (by omega) (Ev.ite_pos (by rw [addAll_length, List.length_take]; omega) ?_)))
    rw [rd_nat, show wrap64 ((i : Int) + 1) = ((i + 1 : Nat) : Int) by rw [wrap64_in (by omega) (by omega)]; omega]
    have e : addAll (-1) (v.take i) ++ [wrap64 (v.getD i 0 - 1)] = addAll (-1) (v.take (i + 1)) := by
      unfold addAll
      rw [List.take_succ_eq_append_getElem (show i < v.length by omega), List.map_append, List.getD_eq_getElem?_getD, List.getElem?_eq_getElem (show i < v.length by omega)]
      rfl
    rw [e]
    exact rdec_l0 t d hd v hv a b l hl c (i + 1) (by omega)
theorem runpack_len (l : List UInt8) (ht : l.length ≤ 100000) : ∃ r, (unpackE (unpackL l)).2.1 = ofL r ∧ r.length ≤ 100000 ∧ (unpackE (unpackL l)).1.length ≤ 100000 := by
  cases h : unpackL l with
  | none => exact ⟨[], rfl, by simp, by simp [unpackE]⟩
  | some p =>
    obtain ⟨o, r⟩ := p
    obtain ⟨e1, e2⟩ := unpack_len h
    exact ⟨r, rfl, by omega, by simp only [unpackE]; rw [nats_length]; omega⟩
theorem unpackE_ok {l : List UInt8} (h : (unpackE (unpackL l)).2.2 = 0) : ∃ o r, unpackL l = some (o, r) := by
  cases hu : unpackL l with
  | none => rw [hu] at h; simp [unpackE] at h
  | some p => exact ⟨p.1, p.2, rfl⟩
theorem unpackE_no {l : List UInt8} (h : ¬ (unpackE (unpackL l)).2.2 = 0) : unpackL l = none := by
  cases hu : unpackL l with
  | none => rfl
  | some p => rw [hu] at h; exact absurd rfl h
theorem rdec_ev (t : List UInt8) (ht : t.length ≤ 100000) (d : ByteArray) (hd : d.size ≤ 140737488351232) : Ev (fun k => clinkerref03_Decode.f k (ofL t) d) (decV t d) := by
  unfold clinkerref03_Decode.f
  refine Ev.bind (runpack_ofL t (by omega)) ?_
  obtain ⟨r1, q1, s1, n1⟩ := runpack_len t ht
  rw [q1]
  refine Ev.bind (runpack_ofL r1 (by omega)) ?_
  obtain ⟨r2, q2, s2, n2⟩ := runpack_len r1 s1
  rw [q2]
  refine Ev.bind (runpack_ofL r2 (by omega)) ?_
  have bad : ∀ (x6 x9 x11 : List Int), Ev (fun k => clinkerref03_Decode.j0 k (ofL t) d x6 x9 x11 true) ((0, 0, [], [], 30) : Int × Int × List Int × List Int × Int) := fun _ _ _ => Ev.step (fun k => clinkerref03_Decode.j0.eq_2 ..) (Ev.ite_pos rfl (Ev.now _))
  by_cases h1 : (unpackE (unpackL t)).2.2 = 0
  case neg =>
    have e : decV t d = (0, 0, [], [], 30) := by unfold decV readV; rw [unpackE_no h1]
    rw [e]
    exact Ev.ite_neg h1 (bad _ _ _)
  refine Ev.ite_pos h1 ?_
  obtain ⟨o1, p1, u1⟩ := unpackE_ok h1
  rw [u1] at q1 ⊢
  obtain rfl : p1 = r1 := by
    have := congrArg (fun s : ByteArray => s.data.toList) q1
    exact this
  by_cases h2 : (unpackE (unpackL p1)).2.2 = 0
  case neg =>
    have e : decV t d = (0, 0, [], [], 30) := by
      unfold decV readV
      rw [u1]
      dsimp only
      rw [unpackE_no h2]
      split <;> simp_all
    rw [e]
    exact Ev.ite_neg h2 (bad _ _ _)
  refine Ev.ite_pos h2 ?_
  obtain ⟨o2, p2, u2⟩ := unpackE_ok h2
  rw [u2] at q2 ⊢
  obtain rfl : p2 = r2 := congrArg (fun s : ByteArray => s.data.toList) q2
  by_cases h3 : (unpackE (unpackL p2)).2.2 = 0
  case neg =>
    have e : decV t d = (0, 0, [], [], 30) := by
      unfold decV readV
      rw [u1]
      dsimp only
      rw [u2]
      dsimp only
      rw [unpackE_no h3]
      split <;> simp_all
    rw [e]
    exact Ev.ite_neg h3 (bad _ _ _)
  refine Ev.ite_pos h3 ?_
  obtain ⟨o3, p3, u3⟩ := unpackE_ok h3
  rw [u3]
  have g1 := (unpack_len u1).2
  have g2 := (unpack_len u2).2
  have g3 := (unpack_len u3).2
  refine Ev.step (fun k => clinkerref03_Decode.j0.eq_2 ..) ?_
  dsimp only [unpackE]
  by_cases h4 : o1.length = 2
  · refine Ev.ite_neg (by rw [nats_length, h4]; simp) (Ev.ite_pos (by rw [nats_length, h4]; omega) (Ev.ite_pos (by rw [nats_length, h4]; omega) ?_))
    have e : decV t d = endV t d (rd (nats o1) 0) (rd (nats o1) 1) (nats o2) (addAll (-1) (nats o3)) := by
      unfold decV readV
      rw [u1]
      dsimp only
      rw [if_pos h4, u2]
      dsimp only
      rw [u3]
      rfl
    rw [e]
    exact rdec_l0 t d hd (nats o3) (by rw [nats_length]; omega) _ _ (nats o2) (by rw [nats_length]; omega) (nats o3).length 0 (by omega)
  · have e : decV t d = (0, 0, [], [], 30) := by
      unfold decV readV
      rw [u1]
      dsimp only
      rw [if_neg h4]
    rw [e]
    refine Ev.ite_pos ?_ (Ev.now _)
    rw [nats_length]
    exact bne_iff_ne.mpr (by omega)
theorem decV_small (t : List UInt8) (ht : t.length ≤ 100000) (d : ByteArray) : (decV t d).2.2.1.length ≤ 100000 ∧ (decV t d).2.2.2.1.length ≤ 100000 := by
  unfold decV
  cases h : readV t with
  | none => simp
  | some p =>
    obtain ⟨a, b, l, m⟩ := p
    have := read_small ht h
    dsimp only
    by_cases h2 : (encV a b l m d).2 = 0
    · rw [if_pos h2]
      by_cases h3 : (encV a b l m d).1.toList = t
      · rw [if_pos h3]; exact this
      · rw [if_neg h3]; simp
    · rw [if_neg h2]; simp
theorem law_TagDecode : clinkerlaw03_TagDecode.Pure := by
  intro a0 a1 h0 h1
  refine Ev.rounds (g := fun k => clinkerlaw03_TagDecode.f k a0 a1) ?_
  have big : Ev (fun k => clinkerlaw03_TagDecode.j0 k a0 a1 true) true := Ev.step (fun k => clinkerlaw03_TagDecode.j0.eq_2 ..) (Ev.ite_pos rfl (Ev.now true))
  unfold clinkerlaw03_TagDecode.f
  by_cases c0 : (a0.size : Int) > 300
  · exact Ev.ite_pos c0 big
  refine Ev.ite_neg c0 ?_
  by_cases c1 : (a1.size : Int) > 300
  · rw [decide_eq_true c1]
    exact big
  rw [decide_eq_false c1]
  refine Ev.step (fun k => clinkerlaw03_TagDecode.j0.eq_2 ..) (Ev.ite_neg (by simp) ?_)
  have ht : a0.data.toList.length ≤ 100000 := by rw [data_length]; omega
  have d1 := dec_ev a0.data.toList ht a1 h1
  have d2 := rdec_ev a0.data.toList ht a1 h1
  rw [ofL_of] at d1 d2
  refine Ev.bind d1 (Ev.bind d2 ?_)
  have hs := decV_small a0.data.toList ht a1
  generalize decV a0.data.toList a1 = r at hs
  show Ev (fun k => (some true).bind _) true
  refine Ev.pure_ (Ev.ite_pos rfl (Ev.bind (rsame_ev _ _ _ _ _ _ _ _ (by omega) (by omega)) ?_))
  rw [decide_eq_true ⟨rfl, rfl, rfl, rfl⟩]
  refine Ev.ite_pos rfl ?_
  rw [beq_self_eq_true]
  exact Ev.now true
end Go.Proofs.Ytejhgjmapnmigaa.X
