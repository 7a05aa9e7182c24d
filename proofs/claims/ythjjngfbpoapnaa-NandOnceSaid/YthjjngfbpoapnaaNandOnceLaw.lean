/- NandOnce over numbers and lists: a page that is written lies ahead of its block's next one. -/
import Derived.Test.YthjjngfbpoapnaaNandOps
import Derived.Test.YthjjngfbpoapnaaPAllx10
namespace Go.Proofs.Ythjjngfbpoapnaa.X
open Go.RowKit Go.Proofs.Ythjjngfbpoapnaa.PAll Go.Proofs.YthjjngfbpoapnaaW.PrintWords Go.Proofs.YthjjngfbpoapnaaW.PrintLast Go.Proofs.YthjjngfbpoapnaaW.PrintMore
set_option linter.unusedVariables false
set_option linter.unusedSimpArgs false
/-- What is written lies ahead of what is next. -/
def WB (x : Blk) : Prop := 0 ≤ x.f1 ∧ ∀ (j : Nat) (q : Pg), x.f0[j]? = some q → q.f0 = true → (j : Int) < x.f1
theorem WB_z : WB zB := ⟨by decide, fun j q h => by
  have h : ([] : List Pg)[j]? = some q := h
  simp at h⟩
theorem WB_prog {x : Blk} (h : WB x) {p : Int} (hp : x.f1 = p) (kind : Int) (d t fd ft : ByteArray) : WB (progB x p kind d t fd ft) := by
  obtain ⟨h0, h1⟩ := h
  subst hp
  refine ⟨by show 0 ≤ x.f1 + 1; omega, fun j q hj hq => ?_⟩
  show (j : Int) < x.f1 + 1
  have hj' : (x.f0.set x.f1.toNat ⟨true, if kind = 0 then d else fd, if kind = 0 then t else ft⟩)[j]? = some q := hj
  by_cases he : x.f1.toNat = j
  · omega
  · rw [List.getElem?_set_ne he] at hj'
    have := h1 j q hj' hq
    omega
theorem WB_era {x : Blk} (h : WB x) (kind n : Int) : WB (eraB x kind n) := by
  have hn := eraN_le x kind n
  have hl := eraB_len x kind n
  refine ⟨by unfold eraB; dsimp only; split <;> omega, fun j q hj hq => ?_⟩
  by_cases hk : kind = 2
  · have hj2 : j < (eraB x kind n).f0.length := by
      by_cases h2 : j < (eraB x kind n).f0.length
      · exact h2
      · rw [List.getElem?_eq_none (by omega)] at hj; cases hj
    show (j : Int) < (if kind = 2 then (x.f0.length : Int) else 0)
    rw [if_pos hk]
    omega
  · exfalso
    have hN : eraN x kind n = x.f0.length := by unfold eraN; rw [if_neg hk]
    have hj' : (List.replicate (eraN x kind n).toNat zP ++ x.f0.drop (eraN x kind n).toNat)[j]? = some q := hj
    rw [hN, Int.toNat_natCast, List.drop_length, List.append_nil] at hj'
    have := List.eq_of_mem_replicate (List.mem_of_getElem? hj')
    rw [this] at hq
    cases hq
def G1 (l : List Blk) : Prop := sm l = true ∧ ∀ x ∈ l, WB x
theorem G1_prog {l : List Blk} (h : G1 l) (br off : Bool) (ops b p : Int) (d t : ByteArray) (kind : Int) (fd ft : ByteArray) : G1 (progV l br off ops b p d t kind fd ft).1 := by
  refine ⟨sm_prog h.1 .., ?_⟩
  unfold progV
  split
  · exact h.2
  · split
    · rename_i hm
      exact all_set h.2 (WB_prog (rdB_all h.2 WB_z b) (mayP_iff.1 hm).2.2.2 _ _ _ _ _) _
    · exact h.2
theorem G1_era {l : List Blk} (h : G1 l) (br off : Bool) (ops b kind n : Int) : G1 (eraV l br off ops b kind n).1 := by
  refine ⟨sm_era h.1 .., ?_⟩
  unfold eraV
  split
  · exact h.2
  · split
    · split
      · exact all_set h.2 (y := ⟨(rdB l b).f0, (rdB l b).f1, (rdB l b).f2, true⟩) (rdB_all (P := fun x => WB x) h.2 WB_z b) _
      · exact all_set h.2 (WB_era (rdB_all h.2 WB_z b) _ _) _
    · exact h.2
theorem G1_new (blocks pages : Int) (bad : List Int) : G1 (newV blocks pages bad).1 := by
  refine ⟨sm_new .., ?_⟩
  unfold newV
  split
  · intro x hx; cases hx
  · intro x hx
    obtain ⟨e0, e1⟩ := rowL_mem hx
    refine ⟨by rw [e1]; decide, fun j q hj hq => ?_⟩
    rw [e0] at hj
    rw [List.eq_of_mem_replicate (List.mem_of_getElem? hj)] at hq
    cases hq
/-- What is written is refused. -/
theorem once {l : List Blk} (h : G1 l) (ops b p : Int) (d t : ByteArray) (kind : Int) (fd ft : ByteArray) (hr : (readV l false b p).2 = 0) (hw : (readV l false b p).1.f0 = true) :
    progV l false false ops b p d t kind fd ft = (l, true, false, ops, 1) := by
  unfold readV at hr hw
  rw [if_neg (by simp)] at hr hw
  by_cases ht : thereB l b p = true
  case neg => rw [if_neg ht] at hr; cases hr
  rw [if_pos ht] at hw
  obtain ⟨_, _, h2, _⟩ := there_iff.1 ht
  have := (rdB_all h.2 WB_z b).2 p.toNat _ (there_at ht) hw
  unfold progV
  rw [if_neg (by simp), if_neg]
  intro hm
  have := (mayP_iff.1 hm).2.2.2
  omega
theorem once_l0 (zs : List St) (hl : zs.length ≤ 9223372036854775807) : ∀ (d i : Nat) (l : List Blk) (ops : Int), 12 - i = d → G1 l → Ev (fun k => clinkerlaw05_NandOnce.l0 k zs true (i : Int) l false false ops) true := by
  intro d
  induction d with
  | zero =>
    intro i l ops hd hG
    refine Ev.step (fun k => clinkerlaw05_NandOnce.l0.eq_2 ..) ?_
    by_cases h : (i : Int) < (zs.length : Int)
    · exact Ev.ite_pos h (Ev.step (fun k => clinkerlaw05_NandOnce.j1.eq_2 ..) (Ev.ite_neg (not_dec (by omega)) (Ev.now true)))
    · exact Ev.ite_neg h (Ev.step (fun k => clinkerlaw05_NandOnce.j1.eq_2 ..) (Ev.ite_neg (by simp) (Ev.now true)))
  | succ d ih =>
    intro i l ops hd hG
    refine Ev.step (fun k => clinkerlaw05_NandOnce.l0.eq_2 ..) ?_
    by_cases h : (i : Int) < (zs.length : Int)
    case neg => exact Ev.ite_neg h (Ev.step (fun k => clinkerlaw05_NandOnce.j1.eq_2 ..) (Ev.ite_neg (by simp) (Ev.now true)))
    refine Ev.ite_pos h (Ev.step (fun k => clinkerlaw05_NandOnce.j1.eq_2 ..) (Ev.ite_pos (decide_eq_true (by omega)) (Ev.ite_pos (by omega) (Ev.ite_pos h ?_))))
    obtain ⟨x, hx⟩ : ∃ x, rd_T37 zs (i : Int) = x := ⟨_, rfl⟩
    rw [hx]
    obtain ⟨fk, fn, hf⟩ := fate_f x.f0 x.f1 x.f2 x.f3 x.f4 x.f5
    refine Ev.have_ (read_f hG.1 _ _ _ _ _) (Ev.have_ hf (Ev.have_ (prog_f hG.1 _ _ _ _ _ _ _ _ _ _ _ _) ?_))
    dsimp only
    generalize Int.tmod (wrap64 x.f1) 2 = b
    generalize Int.tmod (wrap64 x.f2) 6 = p
    have J : ∀ v, v = progV l false false ops b p x.f4 (⟨#[]⟩ : ByteArray) fk x.f5 x.f4 → Ev (fun k => clinkerlaw05_NandOnce.j2 k zs true (i : Int) b v.2.2.2.2 false l false false ops v.1 v.2.1 v.2.2.1 v.2.2.2.1) true := by
      intro v hv
      have hi : wrap64 ((i : Int) + 1) = ((i + 1 : Nat) : Int) := by rw [wrap64_in (by omega) (by omega)]; omega
      refine Ev.step (fun k => clinkerlaw05_NandOnce.j2.eq_2 ..) (Ev.ite_neg (by simp) ?_)
      rw [hi]
      by_cases he : v.2.2.2.2 = 1
      · refine Ev.ite_pos he (Ev.ite_pos (by omega) (Ev.ite_pos h ?_))
        rw [hx]
        by_cases hk : Int.tmod x.f0 2 = 0
        · exact Ev.ite_pos hk (Ev.have_ (era_f hG.1 _ _ _ _ _ _ _ _) (Ev.have_ rfl (ih (i + 1) _ _ (by omega) (G1_era hG _ _ _ _ _ _))))
        · exact Ev.ite_neg hk (Ev.have_ rfl (ih (i + 1) _ _ (by omega) hG))
      · refine Ev.ite_neg he (Ev.have_ rfl (ih (i + 1) _ _ (by omega) ?_))
        rw [hv]
        exact G1_prog hG _ _ _ _ _ _ _ _ _ _
    have J := J _ rfl
    by_cases hr : (readV l false b p).2 = 0
    · refine Ev.ite_pos hr ?_
      by_cases hw : (readV l false b p).1.f0 = true
      · have hv := once hG ops b p x.f4 (⟨#[]⟩ : ByteArray) fk x.f5 x.f4 hr hw
        rw [hv] at J ⊢
        exact Ev.ite_pos hw (Ev.ite_pos rfl J)
      · exact Ev.ite_neg hw J
    · exact Ev.ite_neg hr J
theorem law_NandOnce (zs : List St) (a1 : Int) (hl : zs.length ≤ 9223372036854775807) (hz : ∀ s ∈ zs, SB s) (h1 : 0 ≤ a1 ∧ a1 ≤ 255) : ∃ k, clinkerlaw05_NandOnce.f k zs a1 = some true := by
  refine Ev.rounds (g := fun k => clinkerlaw05_NandOnce.f k zs a1) ?_
  unfold clinkerlaw05_NandOnce.f
  refine Ev.have_ rfl (Ev.ite_pos rfl (Ev.have_ rfl ?_))
  have ha := tmod_in a1 h1.1 (show (0 : Int) < 5 by omega)
  have hn : newV 2 (wrap64 (1 + Int.tmod (wrap64 a1) 5)) [] = (rowL 2 (List.replicate (1 + Int.tmod a1 5).toNat zP) [], false, false, 0, 0) := by
    rw [tmod_byte (m := 5) h1, wrap64_in (by omega) (by omega)]
    exact new_good (by omega) (by omega) (by omega) (by omega)
  have hG := G1_new 2 (wrap64 (1 + Int.tmod (wrap64 a1) 5)) []
  rw [hn] at hG ⊢
  exact once_l0 zs hl 12 0 _ 0 rfl hG
end Go.Proofs.Ythjjngfbpoapnaa.X
