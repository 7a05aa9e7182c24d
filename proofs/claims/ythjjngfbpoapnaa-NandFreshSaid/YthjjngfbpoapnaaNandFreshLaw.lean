/- NandFresh over numbers and lists: behind an erase that is good the pages are programmed one by one. -/
import Derived.Test.YthjjngfbpoapnaaNandDone
import Derived.Test.YthjjngfbpoapnaaFreshP
namespace Go.Proofs.Ythjjngfbpoapnaa.X
open Go.RowKit Go.Proofs.Ythjjngfbpoapnaa.PAll Go.Proofs.YthjjngfbpoapnaaW.PrintWords Go.Proofs.YthjjngfbpoapnaaW.PrintLast Go.Proofs.YthjjngfbpoapnaaW.PrintMore
set_option linter.unusedVariables false
set_option linter.unusedSimpArgs false
/-- Three blocks of P pages. -/
def Fit (P : Nat) (l : List Blk) : Prop := l.length = 3 ∧ ∀ x ∈ l, x.f0.length = P
theorem rdB_mem {l : List Blk} {b : Int} (h0 : 0 ≤ b) (h1 : b < l.length) : rdB l b ∈ l := List.mem_of_getElem? (rdB_at h0 h1)
theorem rdB_set {l : List Blk} {b : Int} (h0 : 0 ≤ b) (h1 : b < l.length) (y : Blk) : rdB (l.set b.toNat y) b = y := by
  show (l.set b.toNat y).getD b.toNat zB = y
  rw [List.getD_eq_getElem?_getD, List.getElem?_set_self (by omega)]
  rfl
theorem Fit.set {P : Nat} {l : List Blk} (h : Fit P l) {y : Blk} (hy : y.f0.length = P) (i : Nat) : Fit P (l.set i y) :=
  ⟨by rw [List.length_set]; exact h.1, all_set (P := fun x => x.f0.length = P) h.2 hy i⟩
theorem Did.fit {P : Nat} {l : List Blk} {br off : Bool} {ops b p : Int} {v : List Blk × Bool × Bool × Int × Int} (h : Did l br off ops b p v) (hf : Fit P l) : Fit P v.1 := by
  rcases h with ⟨fk, fn, rfl⟩ | ⟨d, t, fk, fd, ft, rfl⟩
  · unfold eraV
    split
    · exact hf
    · split
      · rename_i hm
        have hr := hf.2 _ (rdB_mem (may_iff.1 hm).1 (may_iff.1 hm).2.1)
        split
        · exact hf.set (y := ⟨(rdB l b).f0, (rdB l b).f1, (rdB l b).f2, true⟩) hr _
        · exact hf.set (by rw [eraB_len]; exact hr) _
      · exact hf
  · unfold progV
    split
    · exact hf
    · split
      · rename_i hm
        have hm := (mayP_iff.1 hm).1
        exact hf.set (by rw [progB_len]; exact hf.2 _ (rdB_mem (may_iff.1 hm).1 (may_iff.1 hm).2.1)) _
      · exact hf
/-- A block of P pages, the first p of which are written. -/
def Fr (P p : Nat) (b : Int) (l : List Blk) : Prop :=
  sm l = true ∧ (0 ≤ b ∧ b < l.length) ∧ (rdB l b).f3 = false ∧ (rdB l b).f1 = p ∧ (rdB l b).f0.length = P ∧ ∀ (j : Nat) (q : Pg), p ≤ j → (rdB l b).f0[j]? = some q → q.f0 = false
theorem Fr.prog {P p : Nat} {b : Int} {l : List Blk} (h : Fr P p b l) (hp : p < P) (br : Bool) (ops : Int) (d t fd ft : ByteArray) :
    ∃ l2 ops2, progV l br false ops b p d t 0 fd ft = (l2, br, false, ops2, 0) ∧ Fr P (p + 1) b l2 := by
  obtain ⟨hs, ⟨h0, h1⟩, h3, hn, hl, hw⟩ := h
  have hm : mayP l b p 0 = true := mayP_iff.2 ⟨may_iff.2 ⟨h0, h1, by omega, by omega, h3⟩, by omega, by omega, hn⟩
  refine ⟨l.set b.toNat (progB (rdB l b) p 0 d t fd ft), wrap64 (ops + 1), ?_, ?_⟩
  · unfold progV
    rw [if_neg (by simp), if_pos hm]
    rfl
  · refine ⟨sm_set hs (by rw [progB_len]; exact sm_rd hs b) _, ⟨h0, by rw [List.length_set]; exact h1⟩, ?_⟩
    rw [rdB_set h0 h1]
    refine ⟨rfl, by show ((p : Int) + 1) = _; omega, by rw [progB_len]; exact hl, fun j q hj hq => ?_⟩
    have hq' : ((rdB l b).f0.set ((p : Nat) : Int).toNat ⟨true, if (0 : Int) = 0 then d else fd, if (0 : Int) = 0 then t else ft⟩)[j]? = some q := hq
    rw [List.getElem?_set_ne (by omega)] at hq'
    exact hw j q (by omega) hq'
theorem Fr.read {P p : Nat} {b : Int} {l : List Blk} (h : Fr P p b l) (hp : p < P) : (readV l false b p).2 = 0 ∧ (readV l false b p).1.f0 = false := by
  obtain ⟨hs, ⟨h0, h1⟩, h3, hn, hl, hw⟩ := h
  have ht : thereB l b p = true := there_iff.2 ⟨h0, h1, by omega, by omega⟩
  unfold readV
  rw [if_neg (by simp), if_pos ht]
  exact ⟨rfl, hw p _ (Nat.le_refl _) (by have := there_at ht; rw [Int.toNat_natCast] at this; exact this)⟩
theorem fresh_l1 (x1 : Int) (P : Nat) (hP : wrap64 (1 + Int.tmod (wrap64 x1) 5) = P) (hP5 : P ≤ 5) (b : Int) (lc : List Blk) (br oc : Bool) (pc : Int) : ∀ (d p : Nat) (l : List Blk) (ops : Int), P - p = d → p ≤ P → Fr P p b l → Ev (fun k => clinkerlaw05_NandFresh.l1 k x1 true b 0 (p : Int) lc br oc pc l br false ops) true := by
  intro d
  induction d with
  | zero =>
    intro p l ops hd hp h
    refine Ev.step (fun k => clinkerlaw05_NandFresh.l1.eq_2 ..) ?_
    rw [hP]
    refine Ev.ite_neg (by omega) (Ev.ite_pos rfl (Ev.ite_pos rfl ?_))
    rw [beq_self_eq_true]
    exact Ev.now true
  | succ d ih =>
    intro p l ops hd hp h
    refine Ev.step (fun k => clinkerlaw05_NandFresh.l1.eq_2 ..) ?_
    rw [hP]
    obtain ⟨l2, ops2, hv, h2⟩ := h.prog (by omega) br ops (⟨#[120]⟩ : ByteArray) (⟨#[]⟩ : ByteArray) (⟨#[]⟩ : ByteArray) (⟨#[]⟩ : ByteArray)
    obtain ⟨r0, r1⟩ := h.read (by omega)
    have hi : wrap64 ((p : Int) + 1) = ((p + 1 : Nat) : Int) := by rw [wrap64_in (by omega) (by omega)]; omega
    rw [hi]
    refine Ev.ite_pos (by omega) (Ev.have_ (read_f h.1 _ _ _ _ _) (Ev.have_ (prog_f h.1 _ _ _ _ _ _ _ _ _ _ _ _) ?_))
    rw [hv]
    exact Ev.ite_pos r0 (Ev.ite_pos rfl (Ev.ite_neg (by dsimp only; rw [r1]; simp) (ih (p + 1) l2 ops2 (by omega) (by omega) h2)))
theorem fresh_j1 (x1 x2 : Int) (P : Nat) (hP : wrap64 (1 + Int.tmod (wrap64 x1) 5) = P) (hP5 : P ≤ 5) (h2 : 0 ≤ x2 ∧ x2 ≤ 255) {l : List Blk} (hs : sm l = true) (hf : Fit P l) (br off : Bool) (ops : Int) : Ev (fun k => clinkerlaw05_NandFresh.j1 k x1 x2 true l br off ops) true := by
  refine Ev.step (fun k => clinkerlaw05_NandFresh.j1.eq_2 ..) ?_
  have hb := tmod_in x2 h2.1 (show (0 : Int) < 3 by omega)
  rw [tmod_byte (m := 3) h2]
  generalize Int.tmod x2 3 = b at hb ⊢
  have hlen : (l.length : Int) = 3 := by have := hf.1; omega
  refine Ev.have_ (on_f hs ..) (Ev.have_ (era_f hs ..) (Ev.ite_pos hb.1 (Ev.ite_pos (by dsimp only; omega) ?_)))
  dsimp only
  have hrm := hf.2 _ (rdB_mem hb.1 (by omega) : rdB l b ∈ l)
  by_cases hbad : (rdB l b).f3 = true
  · have hm : ¬ mayB l b 0 = true := fun h => by have h' : (rdB l b).f3 = false := (may_iff.1 h).2.2.2.2; rw [hbad] at h'; cases h'
    have hv : eraV l br false ops b 0 0 = (l, true, false, ops, 1) := by
      unfold eraV
      rw [if_neg (by simp), if_neg hm]
    rw [hv]
    exact Ev.ite_pos hbad (Ev.ite_pos rfl (Ev.now true))
  · have hb3 : (rdB l b).f3 = false := Bool.eq_false_iff.2 hbad
    have hm : mayB l b 0 = true := may_iff.2 ⟨hb.1, by omega, by omega, by omega, hb3⟩
    have hv : eraV l br false ops b 0 0 = (l.set b.toNat (eraB (rdB l b) 0 0), br, false, wrap64 (ops + 1), 0) := by
      unfold eraV
      rw [if_neg (by simp), if_pos hm, if_neg (by simp)]
      rfl
    rw [hv]
    refine Ev.ite_neg hbad (fresh_l1 x1 P hP hP5 b l br false ops P 0 _ _ (by omega) (by omega) ⟨sm_set hs (by rw [eraB_len]; omega) _, ⟨hb.1, by rw [List.length_set]; omega⟩, ?_⟩)
    rw [rdB_set hb.1 (by omega)]
    refine ⟨hb3, rfl, by rw [eraB_len]; exact hrm, fun j q _ hq => ?_⟩
    have hq' : (List.replicate (((rdB l b).f0.length : Nat) : Int).toNat zP ++ (rdB l b).f0.drop (((rdB l b).f0.length : Nat) : Int).toNat)[j]? = some q := hq
    rw [Int.toNat_natCast, List.drop_length, List.append_nil] at hq'
    rw [List.eq_of_mem_replicate (List.mem_of_getElem? hq')]
    rfl
theorem fresh_l0 (zs : List St) (hl : zs.length ≤ 9223372036854775807) (hz : ∀ s ∈ zs, SB s) (x1 x2 : Int) (P : Nat) (hP : wrap64 (1 + Int.tmod (wrap64 x1) 5) = P) (hP5 : P ≤ 5) (h2 : 0 ≤ x2 ∧ x2 ≤ 255) : ∀ (d i : Nat) (l : List Blk) (br off : Bool) (ops : Int), 12 - i = d → sm l = true → Fit P l → Ev (fun k => clinkerlaw05_NandFresh.l0 k zs x1 x2 true (i : Int) l br off ops) true := by
  intro d
  induction d with
  | zero =>
    intro i l br off ops hd hs hf
    refine Ev.step (fun k => clinkerlaw05_NandFresh.l0.eq_2 ..) ?_
    by_cases h : (i : Int) < (zs.length : Int)
    · exact Ev.ite_pos h (Ev.ite_neg (by omega) (fresh_j1 x1 x2 P hP hP5 h2 hs hf ..))
    · exact Ev.ite_neg h (fresh_j1 x1 x2 P hP hP5 h2 hs hf ..)
  | succ d ih =>
    intro i l br off ops hd hs hf
    refine Ev.step (fun k => clinkerlaw05_NandFresh.l0.eq_2 ..) ?_
    by_cases h : (i : Int) < (zs.length : Int)
    case neg => exact Ev.ite_neg h (fresh_j1 x1 x2 P hP hP5 h2 hs hf ..)
    obtain ⟨v, off', b', p', hv, hd⟩ := done_ev hs br off ops (hz _ (rd_mem h))
    have hi : wrap64 ((i : Int) + 1) = ((i + 1 : Nat) : Int) := by rw [wrap64_in (by omega) (by omega)]; omega
    rw [hi]
    exact Ev.ite_pos h (Ev.ite_pos (by omega) (Ev.ite_pos (by omega) (Ev.bind hv (ih (i + 1) _ _ _ _ (by omega) (hd.sm hs) (hd.fit hf)))))
theorem law_NandFresh (zs : List St) (a1 a2 : Int) (hl : zs.length ≤ 9223372036854775807) (hz : ∀ s ∈ zs, SB s) (h1 : 0 ≤ a1 ∧ a1 ≤ 255) (h2 : 0 ≤ a2 ∧ a2 ≤ 255) : ∃ k, clinkerlaw05_NandFresh.f k zs a1 a2 = some true := by
  refine Ev.rounds (g := fun k => clinkerlaw05_NandFresh.f k zs a1 a2) ?_
  unfold clinkerlaw05_NandFresh.f
  have ha := tmod_in a1 h1.1 (show (0 : Int) < 5 by omega)
  have hw : wrap64 (1 + Int.tmod (wrap64 a1) 5) = 1 + Int.tmod a1 5 := by rw [tmod_byte (m := 5) h1, wrap64_in (by omega) (by omega)]
  have hs := sm_new 3 (wrap64 (1 + Int.tmod (wrap64 a1) 5)) []
  have hn : newV 3 (wrap64 (1 + Int.tmod (wrap64 a1) 5)) [] = (rowL 3 (List.replicate (1 + Int.tmod a1 5).toNat zP) [], false, false, 0, 0) := by
    rw [hw]
    exact new_good (by omega) (by omega) (by omega) (by omega)
  refine Ev.have_ rfl (Ev.ite_pos rfl (Ev.have_ rfl ?_))
  rw [hn] at hs ⊢
  exact fresh_l0 zs hl hz a1 a2 (1 + Int.tmod a1 5).toNat (by rw [hw]; omega) (by omega) h2 12 0 _ _ _ _ rfl hs ⟨rowL_len .., fun x hx => by rw [(rowL_mem hx).1, List.length_replicate]⟩
end Go.Proofs.Ythjjngfbpoapnaa.X
