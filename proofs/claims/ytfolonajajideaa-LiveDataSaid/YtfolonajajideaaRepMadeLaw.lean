/- What clinkerlaw06.Made makes, whatever its numbers: a chip that is not Off, of as many blocks as asked, whose counts are small and whose tags are short. -/
import Derived.Test.YtfolonajajideaaNandAwake
import Derived.Test.YtfolonajajideaaRepEnc
import Derived.Test.YtfolonajajideaaPAllx7
import Derived.Test.YtfolonajajideaaPAllx10
import Derived.Test.YtfolonajajideaaPAllx11
import Derived.Test.YtfolonajajideaaPAllx12
import Derived.Test.YtfolonajajideaaPAllx13
import Derived.WalkKit
namespace Go.Proofs.Ytfolonajajideaa.X
open Go.RowKit Go.Proofs.Ytfolonajajideaa.PAll Go.Proofs.YtfolonajajideaaW.PrintWords Go.Proofs.YtfolonajajideaaW.PrintLast Go.Proofs.YtfolonajajideaaW.PrintMore
set_option linter.unusedVariables false
set_option linter.unusedSimpArgs false
set_option linter.unusedVariables false
set_option linter.unusedSimpArgs false
theorem Ev.have_ {α β : Type} {x : Option α} {a : α} {f : Nat → α → Option β} {r : β} (hx : x = some a) (h : Ev (fun k => f k a) r) : Ev (fun k => x.bind (f k)) r := by
  subst hx
  exact h
theorem rprog_f {l : List Blk} (h : sm l = true) (br off : Bool) (ops b p : Int) (pw : Bool) (d t : ByteArray) (kind : Int) (fd ft : ByteArray) (n : Int) : clinkerref05_Program.f l br off ops b p pw d t kind fd ft n = some (progV l br off ops b p d t kind fd ft) := if_pos h
theorem rera_f {l : List Blk} (h : sm l = true) (br off : Bool) (ops b kind : Int) (fd ft : ByteArray) (n : Int) : clinkerref05_Erase.f l br off ops b kind fd ft n = some (eraV l br off ops b kind n) := if_pos h
section
open Go.ChangeShapes Go.WideShapes Go.Deep
end
theorem all_set {P : Blk → Prop} {l : List Blk} (h : ∀ x ∈ l, P x) {y : Blk} (hy : P y) (i : Nat) : ∀ x ∈ l.set i y, P x := by
  intro x hx
  rcases List.mem_or_eq_of_mem_set hx with hx | rfl
  · exact h x hx
  · exact hy
theorem rdB_all {P : Blk → Prop} {l : List Blk} (h : ∀ x ∈ l, P x) (hz : P zB) (b : Int) : P (rdB l b) := by
  show P (l.getD b.toNat zB)
  rw [List.getD_eq_getElem?_getD]
  cases hb : l[b.toNat]? with
  | none => exact hz
  | some x => exact h x (List.mem_of_getElem? hb)
theorem sm_set {l : List Blk} (h : sm l = true) {y : Blk} (hy : y.f0.length ≤ 1000000) (i : Nat) : sm (l.set i y) = true := by
  obtain ⟨h0, h1⟩ := sm_iff.1 h
  exact sm_iff.2 ⟨by rw [List.length_set]; exact h0, all_set (P := fun x => x.f0.length ≤ 1000000) h1 hy i⟩
theorem sm_rd {l : List Blk} (h : sm l = true) (b : Int) : (rdB l b).f0.length ≤ 1000000 :=
  rdB_all (P := fun x => x.f0.length ≤ 1000000) (sm_iff.1 h).2 (show (0 : Nat) ≤ 1000000 by omega) b
theorem progB_len (x : Blk) (p kind : Int) (d t fd ft : ByteArray) : (progB x p kind d t fd ft).f0.length = x.f0.length := by
  unfold progB
  exact List.length_set
theorem upTo_le (n k : Int) (hk : 0 ≤ k) : 0 ≤ upTo n k ∧ upTo n k ≤ k := by
  unfold upTo
  split <;> split <;> omega
theorem eraN_le (x : Blk) (kind n : Int) : 0 ≤ eraN x kind n ∧ eraN x kind n ≤ x.f0.length := by
  unfold eraN
  split
  · exact upTo_le n x.f0.length (by omega)
  · omega
theorem eraB_len (x : Blk) (kind n : Int) : (eraB x kind n).f0.length = x.f0.length := by
  have := eraN_le x kind n
  unfold eraB
  simp
  omega
theorem sm_prog {l : List Blk} (h : sm l = true) (br off : Bool) (ops b p : Int) (d t : ByteArray) (kind : Int) (fd ft : ByteArray) : sm (progV l br off ops b p d t kind fd ft).1 = true := by
  unfold progV
  split
  · exact h
  · split
    · exact sm_set h (by rw [progB_len]; exact sm_rd h b) _
    · exact h
theorem sm_era {l : List Blk} (h : sm l = true) (br off : Bool) (ops b kind n : Int) : sm (eraV l br off ops b kind n).1 = true := by
  unfold eraV
  split
  · exact h
  · split
    · split
      · exact sm_set h (y := ⟨(rdB l b).f0, (rdB l b).f1, (rdB l b).f2, true⟩) (sm_rd h b) _
      · exact sm_set h (by rw [eraB_len]; exact sm_rd h b) _
    · exact h
theorem rowL_len (n : Nat) (ps : List Pg) (S : List Int) : (rowL n ps S).length = n := by simp [rowL]
theorem rowL_mem {n : Nat} {ps : List Pg} {S : List Int} {x : Blk} (h : x ∈ rowL n ps S) : x.f0 = ps ∧ x.f1 = 0 := by
  obtain ⟨j, _, rfl⟩ := List.mem_map.1 h
  exact ⟨rfl, rfl⟩
theorem sm_new (blocks pages : Int) (bad : List Int) : sm (newV blocks pages bad).1 = true := by
  unfold newV
  split
  · rfl
  · rename_i h
    refine sm_iff.2 ⟨by rw [rowL_len]; omega, fun x hx => ?_⟩
    rw [(rowL_mem hx).1, List.length_replicate]
    omega
theorem new_good {blocks pages : Int} (h1 : 1 ≤ blocks) (h2 : blocks ≤ 32) (h3 : 1 ≤ pages) (h4 : pages ≤ 16) : newV blocks pages [] = (rowL blocks.toNat (List.replicate pages.toNat zP) [], false, false, 0, 0) := by
  unfold newV
  rw [if_neg]
  simp
  omega
theorem tmod_in (a : Int) {m : Int} (h : 0 ≤ a) (hm : 0 < m) : 0 ≤ Int.tmod a m ∧ Int.tmod a m < m := ⟨Int.tmod_nonneg m h, Int.tmod_lt_of_pos a hm⟩
open Go.RowKit Go.Proofs.Ytfolonajajideaa.PAll Go.Proofs.YtfolonajajideaaW.PrintWords Go.Proofs.YtfolonajajideaaW.PrintLast Go.Proofs.YtfolonajajideaaW.PrintMore
set_option linter.unusedVariables false
set_option linter.unusedSimpArgs false
theorem encV_size (a b : Int) (l m : List Int) (d : ByteArray) : (encV a b l m d).1.size ≤ 1000 := by
  unfold encV
  split
  · rename_i hr
    split
    · exact Nat.zero_le _
    · show (ofL (tagL a b l m d.data.toList)).size ≤ 1000
      have h1 := body_len hr
      have h2 := four_len (sumB (bodyL a b l m ++ d.data.toList)).toNat
      rw [ofL_size]
      unfold tagL
      rw [List.length_append]
      omega
  · exact Nat.zero_le _
/-- Pages whose tags are short. -/
def tgS (ps : List Pg) : Prop := ∀ p ∈ ps, p.f2.size ≤ 1000
theorem tgS_set {ps : List Pg} (h : tgS ps) {p : Pg} (hp : p.f2.size ≤ 1000) (i : Nat) : tgS (ps.set i p) := by
  intro x hx
  rcases List.mem_or_eq_of_mem_set hx with hx | rfl
  · exact h x hx
  · exact hp
theorem tgS_era {x : Blk} (h : tgS x.f0) (kind n : Int) : tgS (eraB x kind n).f0 := by
  intro p hp
  rcases List.mem_append.1 (show p ∈ List.replicate (eraN x kind n).toNat zP ++ x.f0.drop (eraN x kind n).toNat from hp) with hp | hp
  · rw [List.eq_of_mem_replicate hp]
    exact Nat.zero_le _
  · exact h p (List.mem_of_mem_drop hp)
theorem page_ev (seq : Int) (l : List Int) (hl : ∀ x ∈ l, 0 ≤ x ∧ x ≤ 65535) : ∃ (w : Bool) (d t : ByteArray), t.size ≤ 1000 ∧ Ev (fun k => clinkerlaw06_Page.f k seq l) (w, d, t) := by
  have hm := made_facts l
  have he := renc_ev (madeV l).1 seq (madeV l).2.2.1 (madeV l).2.2.2 (⟨#[100]⟩ : ByteArray) (by omega) (by omega)
  have hsz := encV_size (madeV l).1 seq (madeV l).2.2.1 (madeV l).2.2.2 (⟨#[100]⟩ : ByteArray)
  obtain ⟨v, hv⟩ : ∃ v, encV (madeV l).1 seq (madeV l).2.2.1 (madeV l).2.2.2 (⟨#[100]⟩ : ByteArray) = v := ⟨_, rfl⟩
  rw [hv] at he hsz
  unfold clinkerlaw06_Page.f clinkerref04_Make.f
  by_cases h0 : v.2 = 0
  · exact ⟨_, _, _, hsz, Ev.have_ (if_pos hl) (Ev.bind (Ev.bind he (Ev.ite_pos h0 (Ev.now _))) (Ev.now _))⟩
  · exact ⟨_, _, (⟨#[]⟩ : ByteArray), Nat.zero_le _, Ev.have_ (if_pos hl) (Ev.bind (Ev.bind he (Ev.ite_neg h0 (Ev.now _))) (Ev.now _))⟩
theorem rdB_mem' {l : List Blk} {b : Int} (h0 : 0 ≤ b) (h1 : b < l.length) : rdB l b ∈ l := List.mem_of_getElem? (rdB_at h0 h1)
/-- B blocks of P pages, erased n times at most. -/
def GM (B P : Nat) (n : Int) (l : List Blk) : Prop := sm l = true ∧ l.length = B ∧ ∀ x ∈ l, x.f0.length = P ∧ (0 ≤ x.f1 ∧ x.f1 ≤ P) ∧ (0 ≤ x.f2 ∧ x.f2 ≤ n) ∧ tgS x.f0
theorem GM.mono {B P : Nat} {n m : Int} {l : List Blk} (h : GM B P n l) (hm : n ≤ m) : GM B P m l := ⟨h.1, h.2.1, fun x hx => by
  obtain ⟨h0, h1, h2⟩ := h.2.2 x hx
  exact ⟨h0, h1, ⟨h2.1.1, by omega⟩, h2.2⟩⟩
theorem GM.set {B P i : Nat} {n : Int} {l : List Blk} (h : GM B P n l) {y : Blk} (hs : sm (l.set i y) = true) (hy : y.f0.length = P ∧ (0 ≤ y.f1 ∧ y.f1 ≤ P) ∧ (0 ≤ y.f2 ∧ y.f2 ≤ n) ∧ tgS y.f0) : GM B P n (l.set i y) :=
  ⟨hs, by rw [List.length_set]; exact h.2.1, all_set (P := fun x => x.f0.length = P ∧ (0 ≤ x.f1 ∧ x.f1 ≤ P) ∧ (0 ≤ x.f2 ∧ x.f2 ≤ n) ∧ tgS x.f0) h.2.2 hy i⟩
theorem GM.era {B P : Nat} {n : Int} {l : List Blk} (h : GM B P n l) (hn : n ≤ 1000) (br : Bool) (ops b : Int) : ∃ l2 br2 ops2 e, eraV l br false ops b 0 0 = (l2, br2, false, ops2, e) ∧ GM B P (n + 1) l2 := by
  have hse := sm_era h.1 br false ops b 0 0
  unfold eraV at hse ⊢
  rw [if_neg (by simp)] at hse ⊢
  by_cases hm : mayB l b 0 = true
  case neg => rw [if_neg hm]; exact ⟨_, _, _, _, rfl, h.mono (by omega)⟩
  rw [if_pos hm, if_neg (by simp)] at hse ⊢
  obtain ⟨h0, h1, h2⟩ := h.2.2 _ (rdB_mem' (may_iff.1 hm).1 (may_iff.1 hm).2.1)
  refine ⟨_, _, _, _, rfl, (h.mono (show n ≤ n + 1 by omega)).set hse ⟨by rw [eraB_len]; exact h0, ?_, ?_, tgS_era h2.2 _ _⟩⟩
  · show 0 ≤ (if (0 : Int) = 2 then ((rdB l b).f0.length : Int) else 0) ∧ (if (0 : Int) = 2 then ((rdB l b).f0.length : Int) else 0) ≤ P
    rw [if_neg (by omega)]
    omega
  · show 0 ≤ wrap64 ((rdB l b).f2 + 1) ∧ wrap64 ((rdB l b).f2 + 1) ≤ n + 1
    rw [wrap64_in (by omega) (by omega)]
    omega
theorem GM.prog {B P : Nat} {n : Int} {l : List Blk} (h : GM B P n l) (br : Bool) (ops b p : Int) (d t : ByteArray) {kind : Int} (hk : kind = 0 ∨ kind = 1) (fd ft : ByteArray) (ht : t.size ≤ 1000) (hft : ft.size ≤ 1000) : ∃ l2 br2 ops2 e, progV l br false ops b p d t kind fd ft = (l2, br2, false, ops2, e) ∧ GM B P n l2 := by
  have hsp := sm_prog h.1 br false ops b p d t kind fd ft
  unfold progV at hsp ⊢
  rw [if_neg (by simp)] at hsp ⊢
  by_cases hm : mayP l b p kind = true
  case neg => rw [if_neg hm]; exact ⟨_, _, _, _, rfl, h⟩
  rw [if_pos hm] at hsp ⊢
  obtain ⟨hmb, hp0, hp1, hp2⟩ := mayP_iff.1 hm
  obtain ⟨h0, h1, h2⟩ := h.2.2 _ (rdB_mem' (may_iff.1 hmb).1 (may_iff.1 hmb).2.1)
  have hk2 : decide (kind = 2) = false := decide_eq_false (by omega)
  rw [hk2]
  refine ⟨_, _, _, _, rfl, h.set hsp ⟨by rw [progB_len]; exact h0, ?_, h2.1, tgS_set h2.2 ?_ _⟩⟩
  · show 0 ≤ p + 1 ∧ p + 1 ≤ P
    omega
  · show (if kind = 0 then t else ft).size ≤ 1000
    split
    · exact ht
    · exact hft
theorem rd_in {l : List Int} {i : Int} (h0 : 0 ≤ i) (h1 : i < l.length) : rd l i ∈ l := by
  show l.getD i.toNat 0 ∈ l
  rw [List.getD_eq_getElem?_getD, List.getElem?_eq_getElem (by omega)]
  exact List.getElem_mem _
theorem made_j2 (x0 : List Int) (B P : Nat) (x9 x11 x12 x13 : Int) (i : Nat) (hi : i < 40) (hb : 0 ≤ x12 ∧ x12 < B) (pw : Bool) (d t : ByteArray) (kind : Int) (hk : kind = 0 ∨ kind = 1) (fd ft : ByteArray) (ht : t.size ≤ 1000) (hft : ft.size ≤ 1000) {l : List Blk} (h : GM B P i l) (br : Bool) (ops : Int)
    (ih : ∀ l2 br2 ops2, GM B P ((i + 1 : Nat) : Int) l2 → ∃ l3 br3 ops3, GM B P 40 l3 ∧ Ev (fun k => clinkerlaw06_Made.l0 k x0 B (mx x13 (wrap64 (x9 + 1))) ((i + 1 : Nat) : Int) l2 br2 false ops2) (l3, br3, false, ops3)) :
    ∃ l3 br3 ops3, GM B P 40 l3 ∧ Ev (fun k => clinkerlaw06_Made.j2 k x0 B x9 (i : Int) x11 x12 x13 l br false ops pw d t kind fd ft 0) (l3, br3, false, ops3) := by
  have hw : wrap64 ((i : Int) + 1) = ((i + 1 : Nat) : Int) := by rw [wrap64_in (by omega) (by omega)]; omega
  by_cases h29 : Int.tmod x11 29 = 0
  · obtain ⟨l2, br2, ops2, e2, hv2, h2⟩ := h.era (by omega) br ops x12
    obtain ⟨l4, br4, ops4, e4, hv4, h4⟩ := h2.prog br2 ops2 x12 ((rd_T62 l2 x12).f1) d t hk fd ft ht hft
    have hl2 : (l2.length : Int) = B := by rw [h2.2.1]
    have h2 : GM B P ((i + 1 : Nat) : Int) l2 := by have := h2; rwa [show (i : Int) + 1 = ((i + 1 : Nat) : Int) by omega] at this
    have h4 : GM B P ((i + 1 : Nat) : Int) l4 := by have := h4; rwa [show (i : Int) + 1 = ((i + 1 : Nat) : Int) by omega] at this
    by_cases he : e4 = 1
    · obtain ⟨l3, br3, ops3, g3, ev3⟩ := ih l2 br2 ops2 h2
      refine ⟨l3, br3, ops3, g3, Ev.step (fun k => clinkerlaw06_Made.j2.eq_2 ..) (Ev.ite_pos h29 (Ev.have_ (rera_f h.1 _ _ _ _ _ _ _ _) ?_))⟩
      rw [hv2, hw]
      refine Ev.ite_pos hb.1 (Ev.ite_pos (by dsimp only; omega) (Ev.have_ (rprog_f h2.1 _ _ _ _ _ _ _ _ _ _ _ _) ?_))
      rw [hv4]
      exact Ev.ite_pos he ev3
    · obtain ⟨l3, br3, ops3, g3, ev3⟩ := ih l4 br4 ops4 h4
      refine ⟨l3, br3, ops3, g3, Ev.step (fun k => clinkerlaw06_Made.j2.eq_2 ..) (Ev.ite_pos h29 (Ev.have_ (rera_f h.1 _ _ _ _ _ _ _ _) ?_))⟩
      rw [hv2, hw]
      refine Ev.ite_pos hb.1 (Ev.ite_pos (by dsimp only; omega) (Ev.have_ (rprog_f h2.1 _ _ _ _ _ _ _ _ _ _ _ _) ?_))
      rw [hv4]
      exact Ev.ite_neg he ev3
  · obtain ⟨l4, br4, ops4, e4, hv4, h4⟩ := h.prog br ops x12 ((rd_T62 l x12).f1) d t hk fd ft ht hft
    have hl2 : (l.length : Int) = B := by rw [h.2.1]
    by_cases he : e4 = 1
    · obtain ⟨l3, br3, ops3, g3, ev3⟩ := ih l br ops (h.mono (by omega))
      refine ⟨l3, br3, ops3, g3, Ev.step (fun k => clinkerlaw06_Made.j2.eq_2 ..) (Ev.ite_neg h29 (Ev.ite_pos hb.1 (Ev.ite_pos (by omega) (Ev.have_ (rprog_f h.1 _ _ _ _ _ _ _ _ _ _ _ _) ?_))))⟩
      rw [hv4, hw]
      exact Ev.ite_pos he ev3
    · obtain ⟨l3, br3, ops3, g3, ev3⟩ := ih l4 br4 ops4 (h4.mono (by omega))
      refine ⟨l3, br3, ops3, g3, Ev.step (fun k => clinkerlaw06_Made.j2.eq_2 ..) (Ev.ite_neg h29 (Ev.ite_pos hb.1 (Ev.ite_pos (by omega) (Ev.have_ (rprog_f h.1 _ _ _ _ _ _ _ _ _ _ _ _) ?_))))⟩
      rw [hv4, hw]
      exact Ev.ite_neg he ev3
theorem made_l0 (x0 : List Int) (hx : ∀ x ∈ x0, 0 ≤ x ∧ x ≤ 65535) (hl : x0.length ≤ 1000000000000000) (B P : Nat) (hB : 0 < B) (hB2 : B ≤ 1000) : ∀ (d i : Nat) (x9 : Int) (l : List Blk) (br : Bool) (ops : Int), 40 - i = d → i ≤ 40 → 0 ≤ x9 → x9 ≤ x0.length → GM B P i l →
    ∃ l3 br3 ops3, GM B P 40 l3 ∧ Ev (fun k => clinkerlaw06_Made.l0 k x0 B x9 (i : Int) l br false ops) (l3, br3, false, ops3) := by
  intro d
  induction d with
  | zero =>
    intro i x9 l br ops hd hi h9 h9b h
    refine ⟨l, br, ops, h.mono (by omega), Ev.step (fun k => clinkerlaw06_Made.l0.eq_2 ..) (Ev.ite_neg (by omega) (Ev.step (fun k => clinkerlaw06_Made.j1.eq_2 ..) (Ev.ite_neg (by simp) (Ev.now _))))⟩
  | succ d ih =>
    intro i x9 l br ops hd hi h9 h9b h
    by_cases hlt : x9 < (x0.length : Int)
    case neg => exact ⟨l, br, ops, h.mono (by omega), Ev.step (fun k => clinkerlaw06_Made.l0.eq_2 ..) (Ev.ite_pos (by omega) (Ev.step (fun k => clinkerlaw06_Made.j1.eq_2 ..) (Ev.ite_neg (not_dec hlt) (Ev.now _))))⟩
    have hn := hx _ (rd_in h9 hlt)
    have hwn : wrap64 (rd x0 x9) = rd x0 x9 := wrap64_in (by omega) (by omega)
    have hb := tmod_in (rd x0 x9) hn.1 (show (0 : Int) < (B : Int) by omega)
    obtain ⟨t, ht⟩ : ∃ t, Int.tmod (wrap64 (Int.tdiv (wrap64 (rd x0 x9)) 50)) 8 = t := ⟨_, rfl⟩
    have htb : 0 ≤ t ∧ t < 8 := by
      rw [← ht, hwn]
      have hq : 0 ≤ Int.tdiv (rd x0 x9) 50 ∧ Int.tdiv (rd x0 x9) 50 ≤ 65535 := by
        rw [Int.tdiv_eq_ediv_of_nonneg hn.1]
        omega
      rw [wrap64_in (by omega) (by omega)]
      exact tmod_in _ hq.1 (by omega)
    obtain ⟨m, hm⟩ : ∃ m, mn (wrap64 ((wrap64 (x9 + 1)) + t)) (x0.length : Int) = m := ⟨_, rfl⟩
    have hmb : x9 ≤ m ∧ m ≤ x0.length := by
      rw [← hm, wrap64_in (i := x9 + 1) (by omega) (by omega), wrap64_in (by omega) (by omega)]
      unfold mn
      split <;> omega
    obtain ⟨pw, pd, pt, hpt, hpg⟩ := page_ev (Int.tmod (wrap64 (Int.tdiv (wrap64 (rd x0 x9)) 7)) 30) ((x0.take (m : Int).toNat).drop (x9 : Int).toNat) (fun x hxm => hx x (List.mem_of_mem_take (List.mem_of_mem_drop hxm)))
    have hmx : 0 ≤ mx m (wrap64 (x9 + 1)) ∧ mx m (wrap64 (x9 + 1)) ≤ x0.length := by
      rw [wrap64_in (by omega) (by omega)]
      unfold mx
      split <;> omega
    have J := fun kind hk fd ft hft => made_j2 x0 B P x9 (rd x0 x9) (Int.tmod (rd x0 x9) B) m i (by omega) hb pw pd pt kind hk fd ft hpt hft h br ops (fun l2 br2 ops2 h2 => ih (i + 1) _ l2 br2 ops2 (by omega) (by omega) hmx.1 hmx.2 h2)
    by_cases h11 : Int.tmod (rd x0 x9) 11 = 0
    · obtain ⟨l3, br3, ops3, g3, ev3⟩ := J 1 (.inr rfl) (⟨#[120]⟩ : ByteArray) pt hpt
      refine ⟨l3, br3, ops3, g3, Ev.step (fun k => clinkerlaw06_Made.l0.eq_2 ..) (Ev.ite_pos (by omega) (Ev.step (fun k => clinkerlaw06_Made.j1.eq_2 ..) (Ev.ite_pos (decide_eq_true hlt) (Ev.ite_pos h9 (Ev.ite_pos hlt (Ev.ite_neg (by omega) ?_))))))⟩
      rw [ht, hm]
      refine Ev.ite_pos hmb.1 (Ev.ite_pos hmb.2 (Ev.bind hpg ?_))
      rw [hwn]
      exact Ev.ite_pos h11 ev3
    · obtain ⟨l3, br3, ops3, g3, ev3⟩ := J 0 (.inl rfl) (⟨#[]⟩ : ByteArray) (⟨#[]⟩ : ByteArray) (Nat.zero_le _)
      refine ⟨l3, br3, ops3, g3, Ev.step (fun k => clinkerlaw06_Made.l0.eq_2 ..) (Ev.ite_pos (by omega) (Ev.step (fun k => clinkerlaw06_Made.j1.eq_2 ..) (Ev.ite_pos (decide_eq_true hlt) (Ev.ite_pos h9 (Ev.ite_pos hlt (Ev.ite_neg (by omega) ?_))))))⟩
      rw [ht, hm]
      refine Ev.ite_pos hmb.1 (Ev.ite_pos hmb.2 (Ev.bind hpg ?_))
      rw [hwn]
      exact Ev.ite_neg h11 ev3
theorem made_ev (x0 : List Int) (hx : ∀ x ∈ x0, 0 ≤ x ∧ x ≤ 65535) (hl : x0.length ≤ 1000000000000000) (B P : Nat) (hB : 0 < B) (hB2 : B ≤ 32) (hP : 0 < P) (hP2 : P ≤ 16) :
    ∃ l3 br3 ops3, GM B P 40 l3 ∧ Ev (fun k => clinkerlaw06_Made.f k x0 B P) (l3, br3, false, ops3) := by
  have hn : newV (B : Int) (P : Int) [] = (rowL B (List.replicate P zP) [], false, false, 0, 0) := new_good (by omega) (by omega) (by omega) (by omega)
  have hs := sm_new (B : Int) (P : Int) []
  rw [hn] at hs
  obtain ⟨l3, br3, ops3, g3, ev3⟩ := made_l0 x0 hx hl B P hB (by omega) 40 0 0 (rowL B (List.replicate P zP) []) false 0 rfl (by omega) (by omega) (by omega) ⟨hs, rowL_len .., fun x hx => by
    obtain ⟨j, _, rfl⟩ := List.mem_map.1 hx
    exact ⟨by simp, by simp, by simp, fun p hp => by rw [List.eq_of_mem_replicate hp]; exact Nat.zero_le _⟩⟩
  refine ⟨l3, br3, ops3, g3, ?_⟩
  unfold clinkerlaw06_Made.f
  refine Ev.have_ (show clinkerref05_New.f (B : Int) (P : Int) [] = some (newV (B : Int) (P : Int) []) from rfl) ?_
  rw [hn]
  exact ev3
end Go.Proofs.Ytfolonajajideaa.X
