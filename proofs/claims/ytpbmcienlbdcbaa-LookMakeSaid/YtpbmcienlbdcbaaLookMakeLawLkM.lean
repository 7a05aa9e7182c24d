/- The statement LookMake over lists and texts alone. -/
import Derived.Test.YtpbmcienlbdcbaaLkM
import Derived.Test.YtpbmcienlbdcbaaMkA
namespace Go.Proofs.Ytpbmcienlbdcbaa.X
open Go.RowKit Go.Proofs.Ytpbmcienlbdcbaa.PAll Go.Proofs.YtpbmcienlbdcbaaW.PrintWords Go.Proofs.YtpbmcienlbdcbaaW.PrintLast Go.Proofs.YtpbmcienlbdcbaaW.PrintMore
/-- What is made of any record. -/
def anyV (d : ByteArray) (a b : Int) (l m : List Int) : Bool × ByteArray × ByteArray × Int :=
  if (encV a b l m d).2 = 0 then (true, d, (encV a b l m d).1, 0) else (false, (⟨#[]⟩ : ByteArray), (⟨#[]⟩ : ByteArray), (encV a b l m d).2)
theorem mk_any (d : ByteArray) (a b : Int) (l m : List Int) (hl : l.length ≤ 100) : Ev (fun k => look_Make.f k d a b l m) (anyV d a b l m) := by
  unfold look_Make.f anyV
  refine Ev.bind (enc_ev a b l m d (by omega)) ?_
  by_cases h : (encV a b l m d).2 = 0
  · refine Ev.ite_pos h ?_
    rw [if_pos h, h]
    exact Ev.now _
  · refine Ev.ite_neg h ?_
    rw [if_neg h]
    exact Ev.now _
theorem rmk_any (d : ByteArray) (a b : Int) (l m : List Int) (hl : l.length ≤ 100) (hm : m.length ≤ 100) : Ev (fun k => clinkerref04_Make.f k d a b l m) (anyV d a b l m) := by
  unfold clinkerref04_Make.f anyV
  refine Ev.bind (renc_ev a b l m d (by omega) (by omega)) ?_
  by_cases h : (encV a b l m d).2 = 0
  · refine Ev.ite_pos h ?_
    rw [if_pos h]
    exact Ev.now _
  · refine Ev.ite_neg h ?_
    rw [if_neg h]
    exact Ev.now _
theorem page_self (x : Bool × ByteArray × ByteArray × Int) : (x.1 == x.1 && (x.2.1.toList == x.2.1.toList && (x.2.2.1.toList == x.2.2.1.toList))) = true := by
  rw [beq_self_eq_true, beq_self_eq_true, beq_self_eq_true]
  rfl
theorem law_LookMake (d : ByteArray) (a b : Int) (l3 l4 l1 : List Int) (hw : ∀ x ∈ l1, 0 ≤ x ∧ x ≤ 65535) : ∃ k, clinkerlaw04_LookMake.f k d a b l3 l4 l1 = some true := by
  refine Ev.rounds (g := fun k => clinkerlaw04_LookMake.f k d a b l3 l4 l1) ?_
  have ha : clinkerlaw04_awake.f = some true := rfl
  have yes : Ev (fun k => clinkerlaw04_LookMake.j0 k l1 true d a b l3 l4) true := by
    refine Ev.step (fun k => clinkerlaw04_LookMake.j0.eq_2 ..) (Ev.ite_pos rfl ?_)
    rw [ha]
    exact Ev.pure_ (Ev.now true)
  unfold clinkerlaw04_LookMake.f
  by_cases h3 : (l3.length : Int) > 100
  · exact Ev.ite_pos h3 yes
  · refine Ev.ite_neg h3 ?_
    by_cases h4 : (l4.length : Int) > 100
    · rw [decide_eq_true h4]
      exact yes
    · rw [decide_eq_false h4]
      obtain ⟨f0, f1, f2, f3, f4, f5⟩ := made_facts l1
      refine Ev.step (fun k => clinkerlaw04_LookMake.j0.eq_2 ..) (Ev.ite_neg (by simp) ?_)
      refine Ev.bind (mk_any d a b l3 l4 (by omega)) (Ev.bind (rmk_any d a b l3 l4 (by omega) (by omega)) ?_)
      unfold clinkerlaw03_Made.f
      rw [if_pos hw, ha]
      refine Ev.pure_ (Ev.bind (mk_any d _ _ _ _ (by omega)) (Ev.bind (rmk_any d _ _ _ _ (by omega) (by omega)) (Ev.pure_ (Ev.ite_pos rfl (Ev.ite_pos (page_self _) (Ev.ite_pos rfl (Ev.ite_pos (page_self _) ?_)))))))
      rw [beq_self_eq_true]
      exact Ev.now true
end Go.Proofs.Ytpbmcienlbdcbaa.X
