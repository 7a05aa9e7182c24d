/- The statement TagKeys over numbers and lists alone. -/
import Derived.Test.YtejhgjmapnmigaaTagPure
import Derived.Test.YtejhgjmapnmigaaPAllx13
import Derived.Test.YtejhgjmapnmigaaPAllx22
namespace Go.Proofs.Ytejhgjmapnmigaa.X
open Go.RowKit Go.Proofs.Ytejhgjmapnmigaa.PAll Go.Proofs.YtejhgjmapnmigaaW.PrintWords Go.Proofs.YtejhgjmapnmigaaW.PrintLast Go.Proofs.YtejhgjmapnmigaaW.PrintMore

theorem abc_size : (⟨#[97, 98, 99]⟩ : ByteArray).size ≤ 140737488351232 := by decide
theorem wf_u8 {a : Int} (h : (Lit.int .u8 a).wf = true) : 0 ≤ a ∧ a ≤ 255 := by
  have hmin : IntKind.u8.min = 0 := rfl
  have hmax : IntKind.u8.max = 255 := rfl
  simp only [Lit.wf, Bool.and_eq_true, decide_eq_true_eq] at h
  omega
theorem awake_f' : clinkerlaw03_awake.f = some true := rfl
theorem tagKeys_l2 (a b : Int) (m : List Int) (hm : m.length ≤ 10) : ∀ (d i : Nat) (l : List Int), i + d = max 1 l.length → 1 ≤ i → l.length ≤ 10 → Ev (fun k => clinkerlaw03_TagKeys.l2 k (i : Int) a b l m) true
  | 0, i, l, hi, h1, hl => by
    refine Ev.step (fun k => clinkerlaw03_TagKeys.l2.eq_2 ..) (Ev.ite_neg (by omega) ?_)
    rw [awake_f']
    exact Ev.pure_ (Ev.ite_pos rfl (Ev.bind (same_rec a b l m _ (by omega) (by omega) abc_size) (Ev.now true)))
  | d + 1, i, l, hi, h1, hl => by
    have e1 : wrap64 ((i : Int) - 1) = (i : Int) - 1 := wrap64_in (by omega) (by omega)
    have e2 : wrap64 ((i : Int) + 1) = ((i + 1 : Nat) : Int) := by rw [wrap64_in (by omega) (by omega)]; omega
    refine Ev.step (fun k => clinkerlaw03_TagKeys.l2.eq_2 ..) ?_
    rw [e1, e2]
    refine Ev.ite_pos (by omega) (Ev.ite_pos (by omega) (Ev.ite_pos (by omega) (Ev.ite_pos (by omega) ?_)))
    exact tagKeys_l2 a b m hm d (i + 1) _ (by rw [List.length_set]; omega) (by omega) (by rw [List.length_set]; exact hl)
theorem tagKeys_j3 (x a b : Int) (l m : List Int) (hl : l.length ≤ 10) (hm : m.length ≤ 10) : Ev (fun k => clinkerlaw03_TagKeys.j3 k x a b l m) true := by
  refine Ev.step (fun k => clinkerlaw03_TagKeys.j3.eq_2 ..) ?_
  by_cases h : Int.tmod x 3 = 0
  · refine Ev.ite_pos h ?_
    exact tagKeys_l2 a b m hm (max 1 l.length - 1) 1 l (by omega) (by omega) hl
  · refine Ev.ite_neg h ?_
    rw [awake_f']
    exact Ev.pure_ (Ev.ite_pos rfl (Ev.bind (same_rec a b l m _ (by omega) (by omega) abc_size) (Ev.now true)))
theorem tagKeys_l1 (x : Int) (vs : List Int) (hv : vs.length ≤ 140737488351232) (a b : Int) (l : List Int) (hl : l.length ≤ 10) : ∀ (d i : Nat) (m : List Int), i + d = 10 → m.length = i → i ≤ vs.length → Ev (fun k => clinkerlaw03_TagKeys.l1 k x vs (i : Int) a b l m) true
  | 0, i, m, hi, hm, hle => by
    refine Ev.step (fun k => clinkerlaw03_TagKeys.l1.eq_2 ..) ?_
    by_cases h : (i : Int) < (vs.length : Int)
    · exact Ev.ite_pos h (Ev.ite_neg (by omega) (tagKeys_j3 x a b l m hl (by omega)))
    · exact Ev.ite_neg h (tagKeys_j3 x a b l m hl (by omega))
  | d + 1, i, m, hi, hm, hle => by
    have e2 : wrap64 ((i : Int) + 1) = ((i + 1 : Nat) : Int) := by rw [wrap64_in (by omega) (by omega)]; omega
    refine Ev.step (fun k => clinkerlaw03_TagKeys.l1.eq_2 ..) ?_
    rw [e2]
    by_cases h : (i : Int) < (vs.length : Int)
    · refine Ev.ite_pos h (Ev.ite_pos (by omega) (Ev.ite_pos (by omega) (Ev.ite_pos (by omega) ?_)))
      exact tagKeys_l1 x vs hv a b l hl d (i + 1) _ (by omega) (by rw [List.length_append, List.length_singleton, hm]) (by omega)
    · exact Ev.ite_neg h (tagKeys_j3 x a b l m hl (by omega))
theorem tagKeys_j1 (x : Int) (vs : List Int) (hv : vs.length ≤ 140737488351232) (a b : Int) (l : List Int) (hl : l.length ≤ 10) : Ev (fun k => clinkerlaw03_TagKeys.j1 k x vs a b l) true :=
  Ev.step (fun _ => clinkerlaw03_TagKeys.j1.eq_2 ..) (tagKeys_l1 x vs hv a b l hl 10 0 [] rfl rfl (Nat.zero_le _))
theorem tagKeys_l0 (x : Int) (ks vs : List Int) (hk : ks.length ≤ 140737488351232) (hv : vs.length ≤ 140737488351232) (a b : Int) : ∀ (d i : Nat) (l : List Int), i + d = 10 → l.length = i → i ≤ ks.length → Ev (fun k => clinkerlaw03_TagKeys.l0 k x ks vs (i : Int) a b l) true
  | 0, i, l, hi, hm, hle => by
    refine Ev.step (fun k => clinkerlaw03_TagKeys.l0.eq_2 ..) ?_
    by_cases h : (i : Int) < (ks.length : Int)
    · exact Ev.ite_pos h (Ev.ite_neg (by omega) (tagKeys_j1 x vs hv a b l (by omega)))
    · exact Ev.ite_neg h (tagKeys_j1 x vs hv a b l (by omega))
  | d + 1, i, l, hi, hm, hle => by
    have e2 : wrap64 ((i : Int) + 1) = ((i + 1 : Nat) : Int) := by rw [wrap64_in (by omega) (by omega)]; omega
    refine Ev.step (fun k => clinkerlaw03_TagKeys.l0.eq_2 ..) ?_
    rw [e2]
    by_cases h : (i : Int) < (ks.length : Int)
    · refine Ev.ite_pos h (Ev.ite_pos (by omega) (Ev.ite_pos (by omega) (Ev.ite_pos (by omega) ?_)))
      exact tagKeys_l0 x ks vs hk hv a b d (i + 1) _ (by omega) (by rw [List.length_append, List.length_singleton, hm]) (by omega)
    · exact Ev.ite_neg h (tagKeys_j1 x vs hv a b l (by omega))
theorem law_TagKeys : clinkerlaw03_TagKeys.Pure := by
  intro a0 l1 l2 a3 _ _ h1 _ _ h2 _ _
  refine Ev.rounds (g := fun k => clinkerlaw03_TagKeys.f k a0 l1 l2 a3) ?_
  unfold clinkerlaw03_TagKeys.f
  exact tagKeys_l0 a0 l1 l2 (by omega) (by omega) _ _ 10 0 [] rfl rfl (Nat.zero_le _)
end Go.Proofs.Ytejhgjmapnmigaa.X
