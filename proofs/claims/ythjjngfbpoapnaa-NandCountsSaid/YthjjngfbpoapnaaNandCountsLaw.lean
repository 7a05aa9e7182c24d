/- NandCounts over numbers and lists: what a program and an erase count. -/
import Derived.Test.YthjjngfbpoapnaaNandOps
import Derived.Test.YthjjngfbpoapnaaPAllx11
namespace Go.Proofs.Ythjjngfbpoapnaa.X
open Go.RowKit Go.Proofs.Ythjjngfbpoapnaa.PAll Go.Proofs.YthjjngfbpoapnaaW.PrintWords Go.Proofs.YthjjngfbpoapnaaW.PrintLast Go.Proofs.YthjjngfbpoapnaaW.PrintMore
set_option linter.unusedVariables false
set_option linter.unusedSimpArgs false
theorem wr2 {s y x : Int} (h0 : -1000 ≤ s) (h1 : s ≤ 1000) (h2 : 0 ≤ y) (h3 : y ≤ 1000) (h4 : 0 ≤ x) (h5 : x ≤ 1000) : wrap64 (wrap64 (s + y) - x) = s + y - x := by
  rw [wrap64_in (i := s + y) (by omega) (by omega)]
  exact wrap64_in (by omega) (by omega)
/-- Three blocks, erased n times at most. -/
def G3 (l : List Blk) (n : Int) : Prop := sm l = true ∧ ∃ x y z : Blk, l = [x, y, z] ∧ (0 ≤ x.f2 ∧ x.f2 ≤ n) ∧ (0 ≤ y.f2 ∧ y.f2 ≤ n) ∧ (0 ≤ z.f2 ∧ z.f2 ≤ n)
/-- Erases in all. -/
def sumE : List Blk → Int
  | [x, y, z] => x.f2 + y.f2 + z.f2
  | _ => 0
/-- A step's counts. -/
def Cnt (l : List Blk) (br : Bool) (ops n : Int) (er : Bool) (v : List Blk × Bool × Bool × Int × Int) : Prop :=
  G3 v.1 (n + 1) ∧ sumE v.1 - sumE l = (if er = true ∧ (v.2.2.2.2 = 0 ∨ v.2.2.2.2 = 52) then 1 else 0) ∧ v.2.2.2.1 = ops + (if v.2.2.2.2 = 1 then 0 else 1) ∧ v.2.1 = (br || decide (v.2.2.2.2 = 1))
theorem set3 {x y z : Blk} {b : Int} (h0 : 0 ≤ b) (h1 : b < 3) {u : Blk} {e n : Int} (hu : u.f2 = (rdB [x, y, z] b).f2 + e) (he : 0 ≤ e ∧ e ≤ 1) (hx : 0 ≤ x.f2 ∧ x.f2 ≤ n) (hy : 0 ≤ y.f2 ∧ y.f2 ≤ n) (hz : 0 ≤ z.f2 ∧ z.f2 ≤ n) (hs : sm ([x, y, z].set b.toNat u) = true) :
    G3 ([x, y, z].set b.toNat u) (n + 1) ∧ sumE ([x, y, z].set b.toNat u) - sumE [x, y, z] = e := by
  have hb : b = 0 ∨ b = 1 ∨ b = 2 := by omega
  rcases hb with rfl | rfl | rfl
  · have hu : u.f2 = x.f2 + e := hu
    exact ⟨⟨hs, u, y, z, rfl, by omega, by omega, by omega⟩, by show u.f2 + y.f2 + z.f2 - (x.f2 + y.f2 + z.f2) = e; omega⟩
  · have hu : u.f2 = y.f2 + e := hu
    exact ⟨⟨hs, x, u, z, rfl, by omega, by omega, by omega⟩, by show x.f2 + u.f2 + z.f2 - (x.f2 + y.f2 + z.f2) = e; omega⟩
  · have hu : u.f2 = z.f2 + e := hu
    exact ⟨⟨hs, x, y, u, rfl, by omega, by omega, by omega⟩, by show x.f2 + y.f2 + u.f2 - (x.f2 + y.f2 + z.f2) = e; omega⟩
theorem may_in {l : List Blk} {b kind : Int} (h : mayB l b kind = true) : 0 ≤ b ∧ b < l.length := by
  unfold mayB at h
  simp at h
  exact ⟨h.1, h.2.1⟩
theorem rd3 {x y z : Blk} {b n : Int} (h0 : 0 ≤ b) (h1 : b < 3) (hx : 0 ≤ x.f2 ∧ x.f2 ≤ n) (hy : 0 ≤ y.f2 ∧ y.f2 ≤ n) (hz : 0 ≤ z.f2 ∧ z.f2 ≤ n) : 0 ≤ (rdB [x, y, z] b).f2 ∧ (rdB [x, y, z] b).f2 ≤ n := by
  have hb : b = 0 ∨ b = 1 ∨ b = 2 := by omega
  rcases hb with rfl | rfl | rfl
  · exact hx
  · exact hy
  · exact hz
theorem cnt_no {l : List Blk} {br : Bool} {ops n : Int} (er : Bool) (h : G3 l n) : Cnt l br ops n er (l, true, false, ops, 1) := by
  obtain ⟨hs, x, y, z, rfl, hx, hy, hz⟩ := h
  refine ⟨⟨hs, x, y, z, rfl, by omega, by omega, by omega⟩, ?_, ?_, ?_⟩
  · show sumE [x, y, z] - sumE [x, y, z] = _
    rw [if_neg (by simp)]
    omega
  · show ops = ops + (if (1 : Int) = 1 then 0 else 1)
    rw [if_pos rfl]
    omega
  · show true = (br || decide ((1 : Int) = 1))
    simp
theorem cnt_era {l : List Blk} {br : Bool} {ops n : Int} (h : G3 l n) (hn : n ≤ 100) (ho : 0 ≤ ops ∧ ops ≤ 100) (b kind m : Int) : Cnt l br ops n true (eraV l br false ops b kind m) := by
  have hse := sm_era h.1 br false ops b kind m
  unfold eraV at hse ⊢
  rw [if_neg (by simp)] at hse ⊢
  by_cases hm : mayB l b kind = true
  case neg => rw [if_neg hm]; exact cnt_no true h
  rw [if_pos hm] at hse ⊢
  obtain ⟨hs, x, y, z, rfl, hx, hy, hz⟩ := h
  obtain ⟨h0, h1⟩ := may_in hm
  have h1 : b < 3 := h1
  have hw : wrap64 (ops + 1) = ops + 1 := wrap64_in (by omega) (by omega)
  by_cases hk : kind = 1
  · rw [if_pos hk] at hse ⊢
    obtain ⟨g1, g2⟩ := set3 (u := ⟨(rdB [x, y, z] b).f0, (rdB [x, y, z] b).f1, (rdB [x, y, z] b).f2, true⟩) (e := 0) h0 h1 (Int.add_zero _).symm (by omega) hx hy hz hse
    exact ⟨g1, g2.trans (if_neg (by simp)).symm, by show wrap64 (ops + 1) = ops + (if (53 : Int) = 1 then 0 else 1); rw [hw, if_neg (by decide)], by show br = (br || decide ((53 : Int) = 1)); simp⟩
  · rw [if_neg hk] at hse ⊢
    have hr := rd3 h0 h1 hx hy hz
    obtain ⟨g1, g2⟩ := set3 (u := eraB (rdB [x, y, z] b) kind m) (e := 1) h0 h1 (show wrap64 ((rdB [x, y, z] b).f2 + 1) = _ from wrap64_in (by omega) (by omega)) (by omega) hx hy hz hse
    have hq : (if kind = 2 then (52 : Int) else 0) = 0 ∨ (if kind = 2 then (52 : Int) else 0) = 52 := by split <;> simp
    have hq1 : (if kind = 2 then (52 : Int) else 0) ≠ 1 := by split <;> simp
    refine ⟨g1, g2.trans (if_pos ⟨rfl, hq⟩).symm, ?_, ?_⟩
    · show wrap64 (ops + 1) = ops + (if (if kind = 2 then (52 : Int) else 0) = 1 then 0 else 1)
      rw [hw, if_neg hq1]
    · show br = (br || decide ((if kind = 2 then (52 : Int) else 0) = 1))
      rw [decide_eq_false hq1, Bool.or_false]
theorem cnt_prog {l : List Blk} {br : Bool} {ops n : Int} (h : G3 l n) (hn : n ≤ 100) (ho : 0 ≤ ops ∧ ops ≤ 100) (b p : Int) (d t : ByteArray) (kind : Int) (fd ft : ByteArray) : Cnt l br ops n false (progV l br false ops b p d t kind fd ft) := by
  have hse := sm_prog h.1 br false ops b p d t kind fd ft
  unfold progV at hse ⊢
  rw [if_neg (by simp)] at hse ⊢
  by_cases hm : mayP l b p kind = true
  case neg => rw [if_neg hm]; exact cnt_no false h
  rw [if_pos hm] at hse ⊢
  obtain ⟨hs, x, y, z, rfl, hx, hy, hz⟩ := h
  obtain ⟨h0, h1⟩ := may_in (mayP_iff.1 hm).1
  have h1 : b < 3 := h1
  have hw : wrap64 (ops + 1) = ops + 1 := wrap64_in (by omega) (by omega)
  obtain ⟨g1, g2⟩ := set3 (u := progB (rdB [x, y, z] b) p kind d t fd ft) (e := 0) h0 h1 (Int.add_zero _).symm (by omega) hx hy hz hse
  have hq1 : (if kind = 0 then (0 : Int) else if kind = 1 then 53 else 52) ≠ 1 := by
    split
    · decide
    · split <;> decide
  refine ⟨g1, g2.trans (if_neg (by simp)).symm, ?_, ?_⟩
  · show wrap64 (ops + 1) = ops + (if (if kind = 0 then (0 : Int) else if kind = 1 then 53 else 52) = 1 then 0 else 1)
    rw [hw, if_neg hq1]
  · show br = (br || decide ((if kind = 0 then (0 : Int) else if kind = 1 then 53 else 52) = 1))
    rw [decide_eq_false hq1, Bool.or_false]
section
variable {zs : List St} {i : Nat} {l l' : List Blk} {br off br' off' : Bool} {ops ops' o s : Int} {x : Bool}
theorem cnt_j5 (hi : (i : Int) ≤ 12) (hs : s = if x = true then 1 else 0) (ho : ops' = wrap64 (ops + o)) (hb : br' = (br || (o == 0)))
    (next : Ev (fun k => clinkerlaw05_NandCounts.l0 k zs true ((i + 1 : Nat) : Int) l' br' false ops') true) :
    Ev (fun k => clinkerlaw05_NandCounts.j5 k zs true (i : Int) o s 0 x l br off ops l' br' off' ops') true := by
  have hw : wrap64 ((i : Int) + 1) = ((i + 1 : Nat) : Int) := by rw [wrap64_in (by omega) (by omega)]; omega
  refine Ev.step (fun k => clinkerlaw05_NandCounts.j5.eq_2 ..) ?_
  rw [hw]
  subst hs
  cases x with
  | true =>
    refine Ev.ite_pos rfl (Ev.ite_pos ho (Ev.ite_pos rfl ?_))
    cases br with
    | true => exact Ev.ite_pos rfl (Ev.ite_neg (by rw [hb]; simp) (Ev.have_ rfl next))
    | false => exact Ev.ite_neg (by simp) (Ev.ite_neg (by rw [hb]; simp) (Ev.have_ rfl next))
  | false =>
    refine Ev.ite_neg (by simp) (Ev.ite_pos ho (Ev.ite_pos rfl ?_))
    cases br with
    | true => exact Ev.ite_pos rfl (Ev.ite_neg (by rw [hb]; simp) (Ev.have_ rfl next))
    | false => exact Ev.ite_neg (by simp) (Ev.ite_neg (by rw [hb]; simp) (Ev.have_ rfl next))
end
theorem cnt_l1 {zs : List St} {i : Nat} {l l' : List Blk} {br off br' off' : Bool} {ops ops' o e n : Int} (hn : n ≤ 100) (hi : (i : Int) ≤ 12) (hz : (i : Int) < zs.length) (hG : G3 l n) (hG' : G3 l' n)
    (hs : sumE l' - sumE l = if Int.tmod (rd_T37 zs (i : Int)).f0 3 = 0 ∧ (e = 0 ∨ e = 52) then 1 else 0) (ho : ops' = wrap64 (ops + o)) (hb : br' = (br || (o == 0)))
    (next : Ev (fun k => clinkerlaw05_NandCounts.l0 k zs true ((i + 1 : Nat) : Int) l' br' false ops') true) :
    Ev (fun k => clinkerlaw05_NandCounts.l1 k zs true (i : Int) e o 0 0 l br off ops l' br' off' ops') true := by
  obtain ⟨_, x0, x1, x2, rfl, hx0, hx1, hx2⟩ := hG
  obtain ⟨_, y0, y1, y2, rfl, hy0, hy1, hy2⟩ := hG'
  have hs : y0.f2 + y1.f2 + y2.f2 - (x0.f2 + x1.f2 + x2.f2) = if Int.tmod (rd_T37 zs (i : Int)).f0 3 = 0 ∧ (e = 0 ∨ e = 52) then 1 else 0 := hs
  refine Ev.step (fun k => clinkerlaw05_NandCounts.l1.eq_2 ..) (Ev.ite_pos (by decide) (Ev.ite_pos (by decide) (Ev.ite_pos (show (0 : Int) < ((3 : Nat) : Int) by decide) (Ev.ite_pos (show (0 : Int) < ((3 : Nat) : Int) by decide) ?_))))
  rw [show wrap64 ((0 : Int) + 1) = 1 by rw [wrap64_in (by omega) (by omega)]; omega]
  show Ev (fun k => clinkerlaw05_NandCounts.l1 k zs true (i : Int) e o (wrap64 (wrap64 (0 + y0.f2) - x0.f2)) 1 [x0, x1, x2] br off ops [y0, y1, y2] br' off' ops') true
  rw [wr2 (by omega) (by omega) (by omega) (by omega) (by omega) (by omega)]
  refine Ev.step (fun k => clinkerlaw05_NandCounts.l1.eq_2 ..) (Ev.ite_pos (by decide) (Ev.ite_pos (by decide) (Ev.ite_pos (show (1 : Int) < ((3 : Nat) : Int) by decide) (Ev.ite_pos (show (1 : Int) < ((3 : Nat) : Int) by decide) ?_))))
  rw [show wrap64 ((1 : Int) + 1) = 2 by rw [wrap64_in (by omega) (by omega)]; omega]
  show Ev (fun k => clinkerlaw05_NandCounts.l1 k zs true (i : Int) e o (wrap64 (wrap64 ((0 + y0.f2 - x0.f2) + y1.f2) - x1.f2)) 2 [x0, x1, x2] br off ops [y0, y1, y2] br' off' ops') true
  rw [wr2 (by omega) (by omega) (by omega) (by omega) (by omega) (by omega)]
  refine Ev.step (fun k => clinkerlaw05_NandCounts.l1.eq_2 ..) (Ev.ite_pos (by decide) (Ev.ite_pos (by decide) (Ev.ite_pos (show (2 : Int) < ((3 : Nat) : Int) by decide) (Ev.ite_pos (show (2 : Int) < ((3 : Nat) : Int) by decide) ?_))))
  rw [show wrap64 ((2 : Int) + 1) = 3 by rw [wrap64_in (by omega) (by omega)]; omega]
  show Ev (fun k => clinkerlaw05_NandCounts.l1 k zs true (i : Int) e o (wrap64 (wrap64 ((0 + y0.f2 - x0.f2 + y1.f2 - x1.f2) + y2.f2) - x2.f2)) 3 [x0, x1, x2] br off ops [y0, y1, y2] br' off' ops') true
  rw [wr2 (by omega) (by omega) (by omega) (by omega) (by omega) (by omega), show 0 + y0.f2 - x0.f2 + y1.f2 - x1.f2 + y2.f2 - x2.f2 = y0.f2 + y1.f2 + y2.f2 - (x0.f2 + x1.f2 + x2.f2) by omega, hs]
  refine Ev.step (fun k => clinkerlaw05_NandCounts.l1.eq_2 ..) (Ev.ite_neg (by decide) (Ev.ite_pos (by omega) (Ev.ite_pos hz ?_)))
  by_cases hk : Int.tmod (rd_T37 zs (i : Int)).f0 3 = 0
  · refine Ev.ite_pos hk ?_
    by_cases he : e = 0
    · exact Ev.ite_pos he (cnt_j5 hi (by rw [if_pos rfl, if_pos ⟨hk, .inl he⟩]) ho hb next)
    · refine Ev.ite_neg he (cnt_j5 hi ?_ ho hb next)
      by_cases h52 : e = 52
      · rw [if_pos ⟨hk, .inr h52⟩, if_pos (by rw [h52]; rfl)]
      · rw [if_neg (by simp [he, h52]), if_neg (by simp [h52])]
  · exact Ev.ite_neg hk (cnt_j5 hi (by rw [if_neg (fun h_ => hk h_.1), if_neg (by simp)]) ho hb next)
theorem rd_mem {zs : List St} {i : Nat} (h : (i : Int) < (zs.length : Int)) : rd_T37 zs (i : Int) ∈ zs := by
  show zs.getD (i : Int).toNat _ ∈ zs
  rw [Int.toNat_natCast, List.getD_eq_getElem?_getD, List.getElem?_eq_getElem (by omega)]
  exact List.getElem_mem _
theorem counts_l0 (zs : List St) (hl : zs.length ≤ 9223372036854775807) (hz : ∀ s ∈ zs, SB s) : ∀ (d i : Nat) (l : List Blk) (br : Bool) (ops : Int), 12 - i = d → i ≤ 12 → G3 l i → 0 ≤ ops ∧ ops ≤ i → Ev (fun k => clinkerlaw05_NandCounts.l0 k zs true (i : Int) l br false ops) true := by
  intro d
  induction d with
  | zero =>
    intro i l br ops hd hi hG ho
    refine Ev.step (fun k => clinkerlaw05_NandCounts.l0.eq_2 ..) ?_
    by_cases h : (i : Int) < (zs.length : Int)
    · exact Ev.ite_pos h (Ev.step (fun k => clinkerlaw05_NandCounts.j1.eq_2 ..) (Ev.ite_neg (not_dec (by omega)) (Ev.now true)))
    · exact Ev.ite_neg h (Ev.step (fun k => clinkerlaw05_NandCounts.j1.eq_2 ..) (Ev.ite_neg (by simp) (Ev.now true)))
  | succ d ih =>
    intro i l br ops hd hi12 hG ho
    refine Ev.step (fun k => clinkerlaw05_NandCounts.l0.eq_2 ..) ?_
    by_cases h : (i : Int) < (zs.length : Int)
    case neg => exact Ev.ite_neg h (Ev.step (fun k => clinkerlaw05_NandCounts.j1.eq_2 ..) (Ev.ite_neg (by simp) (Ev.now true)))
    refine Ev.ite_pos h (Ev.step (fun k => clinkerlaw05_NandCounts.j1.eq_2 ..) (Ev.ite_pos (decide_eq_true (by omega)) (Ev.ite_pos (by omega) (Ev.ite_pos h ?_))))
    obtain ⟨x, hx⟩ : ∃ x, rd_T37 zs (i : Int) = x := ⟨_, rfl⟩
    rw [hx]
    obtain ⟨fk, fn, hf⟩ := fate_f x.f0 x.f1 x.f2 x.f3 x.f4 x.f5
    refine Ev.have_ hf (Ev.have_ (era_f hG.1 _ _ _ _ _ _ _ _) ?_)
    dsimp only
    generalize Int.tmod (wrap64 x.f1) 4 = b
    generalize Int.tmod (wrap64 x.f2) 5 = p
    have hG1 : G3 l ((i : Int) + 1) := by
      obtain ⟨hs, y0, y1, y2, rfl, h0, h1, h2⟩ := hG
      exact ⟨hs, y0, y1, y2, rfl, by omega, by omega, by omega⟩
    have J : ∀ (er : Bool) v, (er = true ↔ Int.tmod x.f0 3 = 0) → Cnt l br ops i er v → Ev (fun k => clinkerlaw05_NandCounts.j2 k zs true (i : Int) v.2.2.2.2 l br false ops v.1 v.2.1 v.2.2.1 v.2.2.2.1) true := by
      intro er v her hv
      obtain ⟨g1, g2, g3, g4⟩ := hv
      have h3 : (v.1.length : Int) = 3 := by obtain ⟨_, y0, y1, y2, e, _⟩ := g1; rw [e]; rfl
      have hsum : sumE v.1 - sumE l = if Int.tmod (rd_T37 zs (i : Int)).f0 3 = 0 ∧ (v.2.2.2.2 = 0 ∨ v.2.2.2.2 = 52) then 1 else 0 := by
        rw [g2, hx]
        simp only [her]
      have hnx : Ev (fun k => clinkerlaw05_NandCounts.l0 k zs true ((i + 1 : Nat) : Int) v.1 v.2.1 false v.2.2.2.1) true := by
        refine ih (i + 1) _ _ _ (by omega) (by omega) (by have : ((i + 1 : Nat) : Int) = (i : Int) + 1 := by omega
                                                          rw [this]; exact g1) ?_
        rw [g3]
        split <;> omega
      refine Ev.step (fun k => clinkerlaw05_NandCounts.j2.eq_2 ..) (Ev.ite_pos h3 ?_)
      by_cases he : v.2.2.2.2 = 1
      · refine Ev.ite_pos he (Ev.step (fun k => clinkerlaw05_NandCounts.j3.eq_2 ..) (cnt_l1 (n := (i : Int) + 1) (by omega) (by omega) h hG1 g1 hsum ?_ ?_ hnx))
        · rw [g3, if_pos he, wrap64_in (by omega) (by omega)]
        · rw [g4, decide_eq_true he]; rfl
      · refine Ev.ite_neg he (Ev.step (fun k => clinkerlaw05_NandCounts.j3.eq_2 ..) (cnt_l1 (n := (i : Int) + 1) (by omega) (by omega) h hG1 g1 hsum ?_ ?_ hnx))
        · rw [g3, if_neg he, wrap64_in (by omega) (by omega)]
        · rw [g4, decide_eq_false he]; rfl
    by_cases hk : Int.tmod x.f0 3 > 0
    · refine Ev.ite_pos hk (Ev.have_ (prog_f hG.1 _ _ _ _ _ _ _ _ _ _ _ _) ?_)
      exact J false _ (by simp; omega) (cnt_prog hG (by omega) (by omega) _ _ _ _ _ _ _)
    · refine Ev.ite_neg hk ?_
      have hm := hz _ (rd_mem h)
      rw [hx] at hm
      have := tmod_in x.f0 hm.1.1 (show (0 : Int) < 3 by omega)
      exact J true _ (by simp; omega) (cnt_era hG (by omega) (by omega) _ _ _)
theorem law_NandCounts (zs : List St) (a1 : Int) (hl : zs.length ≤ 9223372036854775807) (hz : ∀ s ∈ zs, SB s) (h1 : 0 ≤ a1 ∧ a1 ≤ 255) : ∃ k, clinkerlaw05_NandCounts.f k zs a1 = some true := by
  refine Ev.rounds (g := fun k => clinkerlaw05_NandCounts.f k zs a1) ?_
  unfold clinkerlaw05_NandCounts.f
  refine Ev.have_ rfl (Ev.ite_pos rfl (Ev.have_ rfl ?_))
  have ha := tmod_in a1 h1.1 (show (0 : Int) < 5 by omega)
  have hn : newV 3 (wrap64 (1 + Int.tmod (wrap64 a1) 5)) [] = (rowL 3 (List.replicate (1 + Int.tmod a1 5).toNat zP) [], false, false, 0, 0) := by
    rw [tmod_byte (m := 5) h1, wrap64_in (by omega) (by omega)]
    exact new_good (by omega) (by omega) (by omega) (by omega)
  have hs := sm_new 3 (wrap64 (1 + Int.tmod (wrap64 a1) 5)) []
  rw [hn] at hs ⊢
  exact counts_l0 zs hl hz 12 0 _ false 0 rfl (by omega) ⟨hs, _, _, _, rfl, ⟨Int.le_refl 0, Int.le_refl 0⟩, ⟨Int.le_refl 0, Int.le_refl 0⟩, ⟨Int.le_refl 0, Int.le_refl 0⟩⟩ (by omega)
end Go.Proofs.Ythjjngfbpoapnaa.X
