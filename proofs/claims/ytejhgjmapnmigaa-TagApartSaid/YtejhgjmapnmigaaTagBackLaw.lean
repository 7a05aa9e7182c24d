/- The statements TagBack and TagApart over numbers and lists alone. -/
import Derived.Test.YtejhgjmapnmigaaTagMadeP
import Derived.Test.YtejhgjmapnmigaaTagAll
import Derived.Test.YtejhgjmapnmigaaPAllx21
namespace Go.Proofs.Ytejhgjmapnmigaa.X
open Go.RowKit Go.Proofs.Ytejhgjmapnmigaa.PAll Go.Proofs.YtejhgjmapnmigaaW.PrintWords Go.Proofs.YtejhgjmapnmigaaW.PrintLast Go.Proofs.YtejhgjmapnmigaaW.PrintMore

theorem add_back {m : List Int} (h : ∀ x ∈ m, -1 ≤ x ∧ x < 512) : addAll (-1) (addAll 1 m) = m := by
  induction m with
  | nil => rfl
  | cons x m ih =>
    have h1 := ih (fun y hy => h y (by simp [hy]))
    have h2 := h x (by simp)
    unfold addAll at h1 ⊢
    simp only [List.map_cons]
    rw [h1, wrap64_in (i := x + 1) (by omega) (by omega), wrap64_in (by omega) (by omega)]
    congr 1
    omega
theorem read_tag {a b : Int} {l m : List Int} (h : rightV a b l m = true) (r : List UInt8) : readV (bodyL a b l m ++ r) = some (a, b, l, m) := by
  obtain ⟨h1, h2, h3, h4, h5, h6, h7⟩ := right_facts h
  have g7 := addAll_in h7
  have e1 : nats (ns [a, b]) = [a, b] := ns_back (by intro x hx; simp at hx; omega)
  have e2 : nats (ns l) = l := ns_back (fun x hx => (h6 x hx).1)
  have e3 : nats (ns (addAll 1 m)) = addAll 1 m := ns_back (fun x hx => (g7 x hx).1)
  unfold readV bodyL
  rw [List.append_assoc, List.append_assoc]
  rw [unpack_pack (ns [a, b]) (ns_top (by intro x hx; simp at hx; omega)) (by unfold top; rw [ns_length]; simp)]
  dsimp only
  rw [if_pos (by rw [ns_length]; rfl), unpack_pack (ns l) (ns_top (fun x hx => by have := h6 x hx; omega)) (by unfold top; rw [ns_length]; omega)]
  dsimp only
  rw [unpack_pack (ns (addAll 1 m)) (ns_top (fun x hx => by have := g7 x hx; omega)) (by unfold top; rw [ns_length, addAll_length]; omega)]
  dsimp only
  rw [e1, e2, e3, add_back h7]
  rfl
theorem enc_ok {a b : Int} {l m : List Int} (h : rightV a b l m = true) (d : ByteArray) (hd : d.size ≤ 16) : encV a b l m d = (ofL (tagL a b l m d.data.toList), 0) := by
  unfold encV
  rw [h, if_pos rfl, if_neg (by omega)]
theorem dec_tag {a b : Int} {l m : List Int} (h : rightV a b l m = true) (d : ByteArray) (hd : d.size ≤ 16) : decV (tagL a b l m d.data.toList) d = (a, b, l, m, 0) := by
  unfold decV
  have hr : readV (tagL a b l m d.data.toList) = some (a, b, l, m) := read_tag h _
  rw [hr]
  dsimp only
  rw [enc_ok h d hd, if_pos rfl, if_pos (ofL_toList _)]
theorem tag_small {a b : Int} {l m : List Int} (h : rightV a b l m = true) (d : List UInt8) : (tagL a b l m d).length ≤ 300 := by
  have := body_len h
  unfold tagL
  rw [List.length_append, four_len]
  omega
theorem tagBack_j0 (l : List Int) (hw : ∀ x ∈ l, (Lit.int .u16 x).wf = true) (d : ByteArray) (hd : d.size ≤ 16) : Ev (fun k => clinkerlaw03_TagBack.j0 k l d true) true := by
  obtain ⟨f0, f1, f2, f3, f4, f5⟩ := made_facts l
  refine Ev.step (fun k => clinkerlaw03_TagBack.j0.eq_2 ..) ?_
  rw [made_f l hw]
  refine Ev.pure_ (Ev.bind (enc_ev _ _ _ _ d (by omega) (by omega)) ?_)
  rw [enc_ok f0 d hd]
  dsimp only
  refine Ev.bind (dec_ev _ (by have := tag_small f0 d.data.toList; omega) d (by omega)) ?_
  rw [dec_tag f0 d hd]
  refine Ev.ite_pos rfl (Ev.ite_pos rfl (Ev.ite_pos rfl (Ev.bind (rsame_ev _ _ _ _ _ _ _ _ (by dsimp only; omega) (by dsimp only; omega)) ?_)))
  rw [decide_eq_true ⟨rfl, rfl, rfl, rfl⟩]
  exact Ev.now true
theorem law_TagBack : clinkerlaw03_TagBack.Pure := by
  intro l0 a1 _ _ hw hd
  refine Ev.rounds (g := fun k => clinkerlaw03_TagBack.f k l0 a1) ?_
  unfold clinkerlaw03_TagBack.f
  rw [awake_f]
  refine Ev.pure_ (Ev.ite_pos rfl ?_)
  by_cases h : (a1.size : Int) > 16
  · refine Ev.ite_pos h (Ev.ite_pos (by omega) (Ev.ite_pos (by omega) (tagBack_j0 l0 hw _ ?_)))
    rw [ByteArray.size_extract]
    omega
  · exact Ev.ite_neg h (tagBack_j0 l0 hw _ (by omega))
theorem tagApart_j0 (l m : List Int) (hw : ∀ x ∈ l, (Lit.int .u16 x).wf = true) (hw2 : ∀ x ∈ m, (Lit.int .u16 x).wf = true) (d : ByteArray) (hd : d.size ≤ 16) : Ev (fun k => clinkerlaw03_TagApart.j0 k l m d true) true := by
  obtain ⟨f0, f1, f2, f3, f4, f5⟩ := made_facts l
  obtain ⟨g0, g1, g2, g3, g4, g5⟩ := made_facts m
  refine Ev.step (fun k => clinkerlaw03_TagApart.j0.eq_2 ..) ?_
  rw [made_f l hw, made_f m hw2]
  refine Ev.pure_ (Ev.pure_ (Ev.bind (enc_ev _ _ _ _ d (by omega) (by omega)) (Ev.bind (enc_ev _ _ _ _ d (by omega) (by omega)) ?_)))
  rw [enc_ok f0 d hd, enc_ok g0 d hd]
  refine Ev.ite_pos rfl (Ev.ite_pos rfl (Ev.ite_pos rfl (Ev.bind (rsame_ev _ _ _ _ _ _ _ _ (by omega) (by omega)) ?_)))
  dsimp only
  rw [ofL_toList, ofL_toList]
  have key : (tagL (madeV l).1 (madeV l).2.1 (madeV l).2.2.1 (madeV l).2.2.2 d.data.toList == tagL (madeV m).1 (madeV m).2.1 (madeV m).2.2.1 (madeV m).2.2.2 d.data.toList) = decide ((madeV l).1 = (madeV m).1 ∧ (madeV l).2.1 = (madeV m).2.1 ∧ (madeV l).2.2.1 = (madeV m).2.2.1 ∧ (madeV l).2.2.2 = (madeV m).2.2.2) := by
    by_cases h : tagL (madeV l).1 (madeV l).2.1 (madeV l).2.2.1 (madeV l).2.2.2 d.data.toList = tagL (madeV m).1 (madeV m).2.1 (madeV m).2.2.1 (madeV m).2.2.2 d.data.toList
    · have r1 := read_tag f0 (four (sumB (bodyL (madeV l).1 (madeV l).2.1 (madeV l).2.2.1 (madeV l).2.2.2 ++ d.data.toList)).toNat)
      have r2 := read_tag g0 (four (sumB (bodyL (madeV m).1 (madeV m).2.1 (madeV m).2.2.1 (madeV m).2.2.2 ++ d.data.toList)).toNat)
      unfold tagL at h
      rw [h, r2] at r1
      have r3 := Option.some.inj r1
      simp only [Prod.mk.injEq] at r3
      obtain ⟨q1, q2, q3, q4⟩ := r3
      rw [decide_eq_true ⟨q1.symm, q2.symm, q3.symm, q4.symm⟩]
      unfold tagL
      rw [h]
      exact beq_self_eq_true _
    · rw [beq_eq_false_iff_ne.mpr h, decide_eq_false]
      rintro ⟨q1, q2, q3, q4⟩
      rw [q1, q2, q3, q4] at h
      exact h rfl
  rw [key, beq_self_eq_true]
  exact Ev.now true
theorem law_TagApart : clinkerlaw03_TagApart.Pure := by
  intro l0 l1 a2 _ _ hw _ _ hw2 hd
  refine Ev.rounds (g := fun k => clinkerlaw03_TagApart.f k l0 l1 a2) ?_
  unfold clinkerlaw03_TagApart.f
  rw [awake_f]
  refine Ev.pure_ (Ev.ite_pos rfl ?_)
  by_cases h : (a2.size : Int) > 16
  · refine Ev.ite_pos h (Ev.ite_pos (by omega) (Ev.ite_pos (by omega) (tagApart_j0 l0 l1 hw hw2 _ ?_)))
    rw [ByteArray.size_extract]
    omega
  · exact Ev.ite_neg h (tagApart_j0 l0 l1 hw hw2 _ (by omega))
end Go.Proofs.Ytejhgjmapnmigaa.X
