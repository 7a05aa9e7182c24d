/- The statement LookTags over lists and texts alone. -/
import Derived.Test.YtpbmcienlbdcbaaLkT
import Derived.Test.YtpbmcienlbdcbaaTgx21
namespace Go.Proofs.Ytpbmcienlbdcbaa.X
open Go.RowKit Go.Proofs.Ytpbmcienlbdcbaa.PAll Go.Proofs.YtpbmcienlbdcbaaW.PrintWords Go.Proofs.YtpbmcienlbdcbaaW.PrintLast Go.Proofs.YtpbmcienlbdcbaaW.PrintMore

theorem lookTags_j1 (w : Bool) (d t : ByteArray) (ht : t.size ≤ 9223372036854775807) : Ev (fun k => clinkerlaw04_LookTags.j1 k w d t) true :=
  Ev.step (fun _ => clinkerlaw04_LookTags.j1.eq_2 ..) (look_same w d t ht)
theorem lookTags_j0 (l : List Int) (hw : ∀ x ∈ l, (Lit.int .u16 x).wf = true) (d o : ByteArray) (hd : d.size ≤ 16) (ho : o.size ≤ 140737488351232) (how : Int) : Ev (fun k => clinkerlaw04_LookTags.j0 k l d o how) true := by
  obtain ⟨f0, f1, f2, f3, f4, f5⟩ := made_facts l
  have hs := tag_small f0 d.data.toList
  refine Ev.step (fun _ => clinkerlaw04_LookTags.j0.eq_2 ..) ?_
  rw [made_f l hw]
  refine Ev.pure_ (Ev.bind (rmake_ev d _ _ _ _ f0 hd) ?_)
  dsimp only
  by_cases c0 : Int.tmod how 5 = 0
  · exact Ev.ite_pos c0 (lookTags_j1 _ _ _ (by rw [ofL_size]; omega))
  refine Ev.ite_neg c0 ?_
  by_cases c1 : Int.tmod how 5 = 1
  · exact Ev.ite_pos c1 (Ev.ite_pos (by rw [ofL_size]; omega) (lookTags_j1 _ _ _ (by rw [ByteArray.size_append, ofL_size]; omega)))
  refine Ev.ite_neg c1 ?_
  by_cases c2 : Int.tmod how 5 = 2
  · exact Ev.ite_pos c2 (lookTags_j1 _ _ _ (by rw [ofL_size]; omega))
  refine Ev.ite_neg c2 ?_
  by_cases c3 : Int.tmod how 5 = 3
  · have e : wrap64 (((ofL (tagL (madeV l).1 (madeV l).2.1 (madeV l).2.2.1 (madeV l).2.2.2 d.data.toList)).size : Int) / 2) = ((ofL (tagL (madeV l).1 (madeV l).2.1 (madeV l).2.2.1 (madeV l).2.2.2 d.data.toList)).size : Int) / 2 := by
      rw [ofL_size]
      exact wrap64_in (by omega) (by omega)
    rw [e]
    refine Ev.ite_pos c3 (Ev.ite_pos (by rw [ofL_size]; omega) (Ev.ite_pos (by rw [ofL_size]; omega) (lookTags_j1 _ _ _ ?_)))
    rw [ByteArray.size_extract, ofL_size]
    omega
  · exact Ev.ite_neg c3 (lookTags_j1 _ _ _ (by rw [ofL_size]; omega))
theorem law_LookTags : clinkerlaw04_LookTags.Pure := by
  intro l0 a1 a2 a3 _ _ hw h1 h2 _
  refine Ev.rounds (g := fun k => clinkerlaw04_LookTags.f k l0 a1 a2 a3) ?_
  unfold clinkerlaw04_LookTags.f
  by_cases h : (a1.size : Int) > 16
  · refine Ev.ite_pos h (Ev.ite_pos (by omega) (Ev.ite_pos (by omega) (lookTags_j0 l0 hw _ _ ?_ h2 _)))
    rw [ByteArray.size_extract]
    omega
  · exact Ev.ite_neg h (lookTags_j0 l0 hw _ _ (by omega) h2 _)
end Go.Proofs.Ytpbmcienlbdcbaa.X
