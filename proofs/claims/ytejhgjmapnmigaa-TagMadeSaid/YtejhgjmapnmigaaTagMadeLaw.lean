/- The statement TagMade over numbers and lists alone. -/
import Derived.Test.YtejhgjmapnmigaaTagMadeP
import Derived.Test.YtejhgjmapnmigaaPAllx18
namespace Go.Proofs.Ytejhgjmapnmigaa.X
open Go.RowKit Go.Proofs.Ytejhgjmapnmigaa.PAll Go.Proofs.YtejhgjmapnmigaaW.PrintWords Go.Proofs.YtejhgjmapnmigaaW.PrintLast Go.Proofs.YtejhgjmapnmigaaW.PrintMore

theorem tagMade_j0 (d : ByteArray) (how n a b : Int) (l m : List Int) (hd : d.size ≤ 140737488351232) (h1 : 1 ≤ l.length) (hl : l.length ≤ 8) (hm : m.length ≤ 8) : Ev (fun k => clinkerlaw03_TagMade.j0 k d how n a b l m) true := by
  refine Ev.step (fun k => clinkerlaw03_TagMade.j0.eq_2 ..) (Ev.bind (same_rec a b l m d (by omega) (by omega) hd) (Ev.ite_pos rfl ?_))
  rw [awake_f]
  by_cases c0 : Int.tmod how 5 = 0
  · exact Ev.ite_pos c0 (Ev.pure_ (Ev.ite_pos rfl (Ev.bind (same_rec n b l m d (by omega) (by omega) hd) (Ev.now true))))
  refine Ev.ite_neg c0 ?_
  by_cases c1 : Int.tmod how 5 = 1
  · exact Ev.ite_pos c1 (Ev.pure_ (Ev.ite_pos rfl (Ev.bind (same_rec a n l m d (by omega) (by omega) hd) (Ev.now true))))
  refine Ev.ite_neg c1 ?_
  by_cases c2 : Int.tmod how 5 = 2
  · exact Ev.ite_pos c2 (Ev.ite_pos (by omega) (Ev.pure_ (Ev.ite_pos rfl (Ev.bind (same_rec a b (l ++ [n]) m d (by rw [List.length_append, List.length_singleton]; omega) (by omega) hd) (Ev.now true)))))
  refine Ev.ite_neg c2 ?_
  by_cases c3 : Int.tmod how 5 = 3
  · exact Ev.ite_pos c3 (Ev.ite_pos (by omega) (Ev.pure_ (Ev.ite_pos rfl (Ev.bind (same_rec a b l (m ++ [n]) d (by omega) (by rw [List.length_append, List.length_singleton]; omega) hd) (Ev.now true)))))
  refine Ev.ite_neg c3 ?_
  have e : wrap64 ((l.length : Int) - 1) = (l.length : Int) - 1 := wrap64_in (by omega) (by omega)
  rw [e]
  exact Ev.ite_pos (by omega) (Ev.ite_pos (by omega) (Ev.pure_ (Ev.ite_pos rfl (Ev.bind (same_rec a b (l.take ((l.length : Int) - 1).toNat) m d (by rw [List.length_take]; omega) (by omega) hd) (Ev.now true)))))
theorem law_TagMade : clinkerlaw03_TagMade.Pure := by
  intro l0 a1 a2 a3 _ _ hw hd _ _
  refine Ev.rounds (g := fun k => clinkerlaw03_TagMade.f k l0 a1 a2 a3) ?_
  unfold clinkerlaw03_TagMade.f
  rw [made_f l0 hw]
  refine Ev.pure_ ?_
  obtain ⟨_, f1, f2, f3, _⟩ := made_facts l0
  by_cases h : (a1.size : Int) > 20
  · refine Ev.ite_pos h (Ev.ite_pos (by omega) (Ev.ite_pos (by omega) (tagMade_j0 _ _ _ _ _ _ _ ?_ f1 f2 f3)))
    rw [ByteArray.size_extract]
    omega
  · exact Ev.ite_neg h (tagMade_j0 _ _ _ _ _ _ _ hd f1 f2 f3)
end Go.Proofs.Ytejhgjmapnmigaa.X
