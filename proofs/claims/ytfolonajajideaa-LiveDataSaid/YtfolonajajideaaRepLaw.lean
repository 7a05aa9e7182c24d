/- The tables of a chip by numbers: what the document's All, New, Apply and Replay come to. -/
import Derived.Test.YtfolonajajideaaRepMadeLaw
import Derived.Test.YtfolonajajideaaRepLive
import Derived.Test.YtfolonajajideaaPAllx16
import Derived.Test.YtfolonajajideaaPAllx17
import Derived.Test.YtfolonajajideaaPAllx18
import Derived.Test.YtfolonajajideaaPAllx19
namespace Go.Proofs.Ytfolonajajideaa.X
open Go.RowKit Go.Proofs.Ytfolonajajideaa.PAll Go.Proofs.YtfolonajajideaaW.PrintWords Go.Proofs.YtfolonajajideaaW.PrintLast Go.Proofs.YtfolonajajideaaW.PrintMore
set_option linter.unusedVariables false
set_option linter.unusedSimpArgs false
abbrev Fnd := S44
abbrev zF : Fnd := z44
/-- A page whose record may be. -/
def okF (f : Fnd) : Prop := rightV f.f1.f0 f.f1.f1 f.f1.f2 f.f1.f3 = true
theorem dec_right {t : List UInt8} {d : ByteArray} (h : (decV t d).2.2.2.2 = 0) : rightV (decV t d).1 (decV t d).2.1 (decV t d).2.2.1 (decV t d).2.2.2.1 = true := by
  unfold decV at h ⊢
  cases h1 : readT t with
  | none => rw [h1] at h; simp at h
  | some p =>
    obtain ⟨a, b, l, m⟩ := p
    rw [h1] at h
    dsimp only at h ⊢
    by_cases h2 : (encV a b l m d).2 = 0
    · rw [if_pos h2] at h ⊢
      by_cases h3 : (encV a b l m d).1.toList = t
      · rw [if_pos h3]
        unfold encV at h2
        by_cases hr : rightV a b l m = true
        · exact hr
        · rw [if_neg hr] at h2; simp at h2
      · rw [if_neg h3] at h; simp at h
    · rw [if_neg h2] at h; simp at h
theorem look_ev (w : Bool) (d t : ByteArray) (ht : t.size ≤ 1000) : ∃ (q a b : Int) (l m : List Int), Ev (fun k => clinkerref04_Look.f k w d t) (q, a, b, l, m) ∧ (q = 1 → rightV a b l m = true) := by
  unfold clinkerref04_Look.f
  cases w with
  | false => exact ⟨0, 0, 0, [], [], Ev.ite_neg (by simp) (Ev.now _), fun h => by omega⟩
  | true =>
    have hd := rdec_ev t.data.toList (by have : t.data.toList.length = t.size := by rw [Array.length_toList]; rfl
                                         omega) d
    rw [ofL_of] at hd
    have hr := @dec_right t.data.toList d
    obtain ⟨v, hv⟩ : ∃ v, decV t.data.toList d = v := ⟨_, rfl⟩
    rw [hv] at hd hr
    by_cases h0 : v.2.2.2.2 = 0
    · exact ⟨1, v.1, v.2.1, v.2.2.1, v.2.2.2.1, Ev.ite_pos rfl (Ev.bind hd (Ev.ite_pos h0 (Ev.now _))), fun _ => hr h0⟩
    · exact ⟨2, 0, 0, [], [], Ev.ite_pos rfl (Ev.bind hd (Ev.ite_neg h0 (Ev.now _))), fun h => by omega⟩
theorem place_f {b p : Int} (h0 : 0 ≤ b) (h1 : b < 32) (h2 : 0 ≤ p) (h3 : p < 16) : clinkerref06_Place.f b p = some (b * 16 + p) := by
  unfold clinkerref06_Place.f
  rw [if_neg (by omega), if_neg (by omega), if_neg (by omega), if_neg (by omega), wrap64_in (i := b * 16) (by omega) (by omega), wrap64_in (by omega) (by omega)]
theorem ahead_f (a0 a1 a2 : Int) (a3 a4 : List Int) (b0 b1 b2 : Int) (b3 b4 : List Int) : ∃ b, clinkerref06_ahead.f a0 a1 a2 a3 a4 b0 b1 b2 b3 b4 = some b := by
  unfold clinkerref06_ahead.f
  split
  · exact ⟨_, rfl⟩
  · split
    · exact ⟨_, rfl⟩
    · exact ⟨_, rfl⟩
theorem drop_rdF (l : List Fnd) (i : Nat) (h : i < l.length) : l.drop i = rd_T44 l (i : Int) :: l.drop (i + 1) := by
  rw [List.drop_eq_getElem_cons h]
  congr 1
  show l[i] = l.getD (i : Int).toNat zF
  rw [Int.toNat_natCast, List.getD_eq_getElem?_getD, List.getElem?_eq_getElem h]
  rfl
theorem put_l0 (x0 : List Fnd) (hl : x0.length ≤ 1000000) (f : Fnd) : ∀ (d i : Nat) (acc : List Fnd) (x6 : Bool), i + d = x0.length → acc.length ≤ 2 * i →
    ∃ r, Ev (fun k => clinkerref06_put.l0 k x0 acc x6 (i : Int) f.f0 f.f1.f0 f.f1.f1 f.f1.f2 f.f1.f3) r ∧ (x6 = true → r = acc ++ x0.drop i) ∧ (x6 = false → ∃ u v, x0.drop i = u ++ v ∧ r = acc ++ (u ++ f :: v))
  | 0, i, acc, true, hi, ha => ⟨acc, Ev.step (fun k => clinkerref06_put.l0.eq_2 ..) (Ev.ite_neg (by omega) (Ev.ite_pos rfl (Ev.now _))), fun _ => by rw [List.drop_of_length_le (by omega), List.append_nil], (nofun)⟩
  | 0, i, acc, false, hi, ha => ⟨acc ++ [f], Ev.step (fun k => clinkerref06_put.l0.eq_2 ..) (Ev.ite_neg (by omega) (Ev.ite_neg (by simp) (Ev.ite_pos (by omega) (Ev.now _)))), (nofun), fun _ => ⟨[], [], by rw [List.drop_of_length_le (by omega)]; rfl, rfl⟩⟩
  | d + 1, i, acc, true, hi, ha => by
    obtain ⟨r, ev, h1, _⟩ := put_l0 x0 hl f d (i + 1) (acc ++ [rd_T44 x0 (i : Int)]) true (by omega) (by simp; omega)
    refine ⟨r, Ev.step (fun k => clinkerref06_put.l0.eq_2 ..) (Ev.ite_pos (by omega) (Ev.ite_pos rfl (Ev.ite_pos (by omega) (Ev.ite_pos (by omega) ?_)))), fun _ => ?_, (nofun)⟩
    · rw [wrap_succ (by omega)]
      exact ev
    · rw [h1 rfl, drop_rdF x0 i (by omega), List.append_assoc]
      rfl
  | d + 1, i, acc, false, hi, ha => by
    obtain ⟨b, hb⟩ := ahead_f f.f0 f.f1.f0 f.f1.f1 f.f1.f2 f.f1.f3 (rd_T44 x0 (i : Int)).f0 (rd_T44 x0 (i : Int)).f1.f0 (rd_T44 x0 (i : Int)).f1.f1 (rd_T44 x0 (i : Int)).f1.f2 (rd_T44 x0 (i : Int)).f1.f3
    cases b with
    | true =>
      obtain ⟨r, ev, h1, _⟩ := put_l0 x0 hl f d (i + 1) (acc ++ [f] ++ [rd_T44 x0 (i : Int)]) true (by omega) (by simp; omega)
      refine ⟨r, Ev.step (fun k => clinkerref06_put.l0.eq_2 ..) (Ev.ite_pos (by omega) (Ev.ite_neg (by simp) (Ev.ite_pos (by omega) (Ev.have_ hb (Ev.ite_pos rfl (Ev.ite_pos (by omega) (Ev.pure_ (Ev.ite_pos (by simp; omega) ?_)))))))), (nofun), fun _ => ⟨[], x0.drop i, rfl, ?_⟩⟩
      · rw [wrap_succ (by omega)]
        exact ev
      · rw [h1 rfl, drop_rdF x0 i (by omega), List.append_assoc, List.append_assoc]
        rfl
    | false =>
      obtain ⟨r, ev, _, h2⟩ := put_l0 x0 hl f d (i + 1) (acc ++ [rd_T44 x0 (i : Int)]) false (by omega) (by simp; omega)
      obtain ⟨u, v, huv, hr⟩ := h2 rfl
      refine ⟨r, Ev.step (fun k => clinkerref06_put.l0.eq_2 ..) (Ev.ite_pos (by omega) (Ev.ite_neg (by simp) (Ev.ite_pos (by omega) (Ev.have_ hb (Ev.ite_neg (by simp) (Ev.ite_pos (by omega) ?_)))))), (nofun), fun _ => ⟨rd_T44 x0 (i : Int) :: u, v, ?_, ?_⟩⟩
      · rw [wrap_succ (by omega)]
        exact ev
      · rw [drop_rdF x0 i (by omega), huv]
        rfl
      · rw [hr, List.append_assoc]
        rfl
theorem put_ev (o : List Fnd) (hl : o.length ≤ 1000000) (f : Fnd) : ∃ r, Ev (fun k => clinkerref06_put.f k o f.f0 f.f1.f0 f.f1.f1 f.f1.f2 f.f1.f3) r ∧ ∃ u v, o = u ++ v ∧ r = u ++ f :: v := by
  obtain ⟨r, ev, _, h⟩ := put_l0 o hl f o.length 0 [] false (by omega) (by simp)
  obtain ⟨u, v, h1, h2⟩ := h rfl
  exact ⟨r, ev, u, v, h1, h2⟩
/-- Right records, of unlike places below c. -/
def WF (c : Nat) (o : List Fnd) : Prop := o.length ≤ c ∧ (∀ f ∈ o, okF f ∧ 0 ≤ f.f0 ∧ f.f0 < (c : Int)) ∧ o.Pairwise (fun x y => x.f0 ≠ y.f0)
theorem WF.mono {c d : Nat} {o : List Fnd} (h : WF c o) (hcd : c ≤ d) : WF d o := ⟨by have := h.1; omega, fun f hf => by
  obtain ⟨h1, h2, h3⟩ := h.2.1 f hf
  exact ⟨h1, h2, by omega⟩, h.2.2⟩
theorem WF.put {c : Nat} {o u v : List Fnd} (h : WF c o) (ho : o = u ++ v) {f : Fnd} (hf : okF f) (h0 : f.f0 = (c : Int)) : WF (c + 1) (u ++ f :: v) := by
  subst ho
  obtain ⟨h1, h2, h3⟩ := h
  obtain ⟨p1, p2, p3⟩ := List.pairwise_append.1 h3
  refine ⟨by simp at h1 ⊢; omega, fun g hg => ?_, List.pairwise_append.2 ⟨p1, List.pairwise_cons.2 ⟨fun g hg => ?_, p2⟩, fun a ha g hg => ?_⟩⟩
  · rcases List.mem_append.1 hg with hg | hg
    · obtain ⟨q1, q2, q3⟩ := h2 g (List.mem_append_left _ hg)
      exact ⟨q1, q2, by omega⟩
    · rcases List.mem_cons.1 hg with rfl | hg
      · exact ⟨hf, by omega, by omega⟩
      · obtain ⟨q1, q2, q3⟩ := h2 g (List.mem_append_right _ hg)
        exact ⟨q1, q2, by omega⟩
  · have := h2 g (List.mem_append_right _ hg)
    omega
  · rcases List.mem_cons.1 hg with rfl | hg
    · have := h2 a (List.mem_append_left _ ha)
      omega
    · exact p3 a ha g hg
theorem rdP_tag {ps : List Pg} (h : tgS ps) (p : Int) : (rd_T54 ps p).f2.size ≤ 1000 := by
  show (ps.getD p.toNat zP).f2.size ≤ 1000
  rw [List.getD_eq_getElem?_getD]
  cases hb : ps[p.toNat]? with
  | none => exact Nat.zero_le _
  | some x => exact h x (List.mem_of_getElem? hb)
section
variable {L : List Blk} {br off : Bool} {ops n : Int} {B P : Nat} (h : GM B P n L) (hB : B ≤ 32) (hP : P ≤ 16)
include h hB hP
theorem all_l1 (b : Nat) (hb : b < B) (next : ∀ o, WF ((b + 1) * 16) o → ∃ r, WF 512 r ∧ Ev (fun k => clinkerref06_All.l0 k o (wrap64 ((b : Int) + 1)) L br off ops) r) : ∀ (d p : Nat) (o : List Fnd), p + d = P → WF (b * 16 + p) o →
    ∃ r, WF 512 r ∧ Ev (fun k => clinkerref06_All.l1 k o (b : Int) (p : Int) L br off ops) r
  | 0, p, o, hp, ho => by
    have hL : L.length = B := h.2.1
    have hx : (rd_T62 L (b : Int)).f0.length = P := (h.2.2 _ (rdB_mem' (by omega) (by omega))).1
    obtain ⟨r, hr, ev⟩ := next o (ho.mono (by omega))
    exact ⟨r, hr, Ev.step (fun k => clinkerref06_All.l1.eq_2 ..) (Ev.ite_pos (by omega) (Ev.ite_pos (by omega) (Ev.ite_neg (by rw [hx]; omega) ev)))⟩
  | d + 1, p, o, hp, ho => by
    have hL : L.length = B := h.2.1
    obtain ⟨hx, _, _, htg⟩ := h.2.2 _ (rdB_mem' (b := (b : Int)) (by omega) (by omega))
    have hx : (rd_T62 L (b : Int)).f0.length = P := hx
    obtain ⟨q, a0, a1, l, m, hlk, hq⟩ := look_ev (rd_T54 (rd_T62 L (b : Int)).f0 (p : Int)).f0 (rd_T54 (rd_T62 L (b : Int)).f0 (p : Int)).f1 _ (rdP_tag htg (p : Int))
    have hpl := place_f (b := (b : Int)) (p := (p : Int)) (by omega) (by omega) (by omega) (by omega)
    by_cases h1 : q = 1
    · obtain ⟨r0, hr0, u, v, huv, e0⟩ := put_ev o (by have := ho.1; omega) ⟨(b : Int) * 16 + (p : Int), ⟨a0, a1, l, m⟩⟩
      have hw := ho.put huv (f := ⟨(b : Int) * 16 + (p : Int), ⟨a0, a1, l, m⟩⟩) (hq h1) (by simp)
      rw [← e0] at hw
      obtain ⟨r, hr, ev⟩ := all_l1 b hb next d (p + 1) r0 (by omega) hw
      refine ⟨r, hr, Ev.step (fun k => clinkerref06_All.l1.eq_2 ..) (Ev.ite_pos (by omega) (Ev.ite_pos (by omega) (Ev.ite_pos (by rw [hx]; omega) (Ev.ite_pos (by omega) (Ev.bind hlk (Ev.have_ hpl (Ev.ite_pos h1 (Ev.ite_pos (by omega) (Ev.bind hr0 ?_)))))))))⟩
      rw [wrap_succ (by omega)]
      exact ev
    · obtain ⟨r, hr, ev⟩ := all_l1 b hb next d (p + 1) o (by omega) (ho.mono (by omega))
      refine ⟨r, hr, Ev.step (fun k => clinkerref06_All.l1.eq_2 ..) (Ev.ite_pos (by omega) (Ev.ite_pos (by omega) (Ev.ite_pos (by rw [hx]; omega) (Ev.ite_pos (by omega) (Ev.bind hlk (Ev.have_ hpl (Ev.ite_neg h1 ?_)))))))⟩
      rw [wrap_succ (by omega)]
      exact ev
theorem all_l0 : ∀ (d b : Nat) (o : List Fnd), b + d = B → WF (b * 16) o → ∃ r, WF 512 r ∧ Ev (fun k => clinkerref06_All.l0 k o (b : Int) L br off ops) r
  | 0, b, o, hb, ho => ⟨o, ho.mono (by omega), Ev.step (fun k => clinkerref06_All.l0.eq_2 ..) (Ev.ite_neg (by have := h.2.1; omega) (Ev.now _))⟩
  | d + 1, b, o, hb, ho => by
    have hL : L.length = B := h.2.1
    obtain ⟨r, hr, ev⟩ := all_l1 (br := br) (off := off) (ops := ops) h hB hP b (by omega) (fun o ho => by
      rw [wrap_succ (by omega)]
      exact all_l0 d (b + 1) o (by omega) ho) P 0 o (by omega) ho
    exact ⟨r, hr, Ev.step (fun k => clinkerref06_All.l0.eq_2 ..) (Ev.ite_pos (by omega) ev)⟩
theorem all_ev : ∃ r, WF 512 r ∧ Ev (fun k => clinkerref06_All.f k L br off ops) r :=
  all_l0 h hB hP B 0 [] (by omega) ⟨by simp, (fun f hf => nomatch hf), List.Pairwise.nil⟩
end
theorem new_l0 (n : Nat) (hn : n ≤ 64) : ∀ (d i : Nat), i + d = n → Ev (fun k => clinkerref07_New.l0 k (n : Int) (i : Int) (List.replicate i (-1)) (List.replicate i (-1))) (List.replicate n (-1), List.replicate n (-1))
  | 0, i, hi => by
    obtain rfl : i = n := by omega
    exact Ev.step (fun k => clinkerref07_New.l0.eq_2 ..) (Ev.ite_neg (by omega) (Ev.now _))
  | d + 1, i, hi => by
    have ih := new_l0 n hn d (i + 1) (by omega)
    refine Ev.step (fun k => clinkerref07_New.l0.eq_2 ..) (Ev.ite_pos (by omega) (Ev.ite_pos (by omega) (Ev.ite_pos (by rw [List.length_replicate]; omega) (Ev.ite_pos (by rw [List.length_replicate]; omega) ?_))))
    rw [wrap_succ (by omega), ← List.replicate_succ']
    exact ih
theorem new_ev (n : Nat) (hn : n ≤ 64) : Ev (fun k => clinkerref07_New.f k (n : Int)) (List.replicate n (-1), List.replicate n (-1)) := new_l0 n hn n 0 (by omega)
theorem right_len2 {a b : Int} {l m : List Int} (h : rightV a b l m = true) (h2 : a = 2) : m.length = l.length := by
  unfold rightV at h
  subst h2
  split at h
  · cases h
  · split at h
    · cases h
    · split at h
      · cases h
      · split at h
        · cases h
        · rw [if_neg (by omega), if_pos rfl] at h
          have := beq_iff_eq.mp h
          omega
theorem set_getD (B : List Int) (j : Nat) (v : Int) (s : Nat) (hs : s < B.length) : (B.set j v).getD s 0 = if s = j then v else B.getD s 0 := by
  rw [List.getD_eq_getElem?_getD, List.getD_eq_getElem?_getD, List.getElem?_set]
  by_cases h : j = s
  · subst h
    rw [if_pos rfl, if_pos rfl, if_pos hs]
    rfl
  · rw [if_neg h, if_neg (fun e => h e.symm)]
theorem ap_l0 (n : Nat) (hn : n ≤ 64) (pl kind seq : Int) (ks vs : List Int) (hr : rightV kind seq ks vs = true) : ∀ (d i : Nat) (M B : List Int), i + d = ks.length → M.length = n → B.length = n →
    ∃ M' B', Ev (fun k => clinkerref07_Apply.l0 k (i : Int) pl kind seq ks vs M B) (M', B') ∧ M'.length = n ∧ B'.length = n ∧ ∀ s : Nat, s < n → B'.getD s 0 = if ((s : Nat) : Int) ∈ ks.drop i then pl else B.getD s 0
  | 0, i, M, B, hi, hM, hB => ⟨M, B, Ev.step (fun k => clinkerref07_Apply.l0.eq_2 ..) (Ev.ite_neg (by omega) (Ev.now _)), hM, hB, fun s hs => by rw [List.drop_of_length_le (by omega), if_neg (by simp)]⟩
  | d + 1, i, M, B, hi, hM, hB => by
    have hi1 : (i : Int) < (ks.length : Int) := by omega
    have hi0 : 0 ≤ (i : Int) := by omega
    obtain ⟨f1, f2, f3, f4, f5, f6, f7⟩ := right_facts hr
    have hd := drop_rd ks i (by omega)
    have hk := f6 (rd ks (i : Int)) (by rw [rd_get, List.getElem?_eq_getElem (by omega)]; exact List.getElem_mem _)
    obtain ⟨x, hx⟩ : ∃ x, rd ks (i : Int) = x := ⟨_, rfl⟩
    rw [hx] at hd hk
    have hw : wrap64 ((i : Int) + 1) = ((i + 1 : Nat) : Int) := wrap_succ (by omega)
    have start : ∀ {r : List Int × List Int}, Ev (fun k => clinkerref07_Apply.j1 k (i : Int) x (decide (x ≥ (M.length : Int))) pl kind seq ks vs M B) r → Ev (fun k => clinkerref07_Apply.l0 k (i : Int) pl kind seq ks vs M B) r := by
      intro r h
      refine Ev.step (fun k => clinkerref07_Apply.l0.eq_2 ..) (Ev.ite_pos hi1 (Ev.ite_pos hi0 ?_))
      rw [hx]
      refine Ev.ite_neg (by omega) ?_
      by_cases hge : x ≥ (M.length : Int)
      · rw [decide_eq_true hge] at h
        exact Ev.ite_pos hge h
      · rw [hM] at h hge ⊢
        rw [hB]
        exact Ev.ite_neg hge h
    by_cases hge : x ≥ (M.length : Int)
    · obtain ⟨M', B', ev, e1, e2, e3⟩ := ap_l0 n hn pl kind seq ks vs hr d (i + 1) M B (by omega) hM hB
      refine ⟨M', B', start ?_, e1, e2, fun s hs => ?_⟩
      · rw [decide_eq_true hge]
        refine Ev.step (fun k => clinkerref07_Apply.j1.eq_2 ..) (Ev.ite_pos rfl ?_)
        rw [hw]
        exact ev
      · rw [e3 s hs, hd]
        have : ((s : Int) ∈ x :: ks.drop (i + 1)) ↔ ((s : Int) ∈ ks.drop (i + 1)) := by
          rw [List.mem_cons]
          exact ⟨fun h => h.resolve_left (by omega), .inr⟩
        simp only [this]
    · have hx1 : 0 ≤ x := hk.1
      obtain ⟨j, rfl⟩ : ∃ j : Nat, x = (j : Int) := ⟨x.toNat, by omega⟩
      have fin : ∀ (M' : List Int), M'.length = n → ∃ M2 B2, Ev (fun k => clinkerref07_Apply.l0 k (wrap64 ((i : Int) + 1)) pl kind seq ks vs M' (B.set ((j : Int)).toNat pl)) (M2, B2) ∧ M2.length = n ∧ B2.length = n ∧ ∀ s : Nat, s < n → B2.getD s 0 = if ((s : Nat) : Int) ∈ ks.drop i then pl else B.getD s 0 := by
        intro M' hM'
        rw [hw, Int.toNat_natCast]
        obtain ⟨M2, B2, ev, e1, e2, e3⟩ := ap_l0 n hn pl kind seq ks vs hr d (i + 1) M' (B.set j pl) (by omega) hM' (by rw [List.length_set]; exact hB)
        refine ⟨M2, B2, ev, e1, e2, fun s hs => ?_⟩
        rw [e3 s hs, hd, set_getD B j pl s (by omega)]
        by_cases h1 : (s : Int) ∈ ks.drop (i + 1)
        · rw [if_pos h1, if_pos (List.mem_cons_of_mem _ h1)]
        · rw [if_neg h1]
          by_cases h2 : s = j
          · subst h2
            rw [if_pos rfl, if_pos (List.mem_cons_self ..)]
          · rw [if_neg h2, if_neg (fun h => by
              rcases List.mem_cons.1 h with h | h
              · omega
              · exact h1 h)]
      rcases f1 with h1 | h2
      · obtain ⟨M2, B2, ev, e1, e2, e3⟩ := fin (M.set ((j : Int)).toNat pl) (by rw [List.length_set]; exact hM)
        refine ⟨M2, B2, start ?_, e1, e2, e3⟩
        rw [decide_eq_false hge]
        exact Ev.step (fun k => clinkerref07_Apply.j1.eq_2 ..) (Ev.ite_neg (by simp) (Ev.ite_pos h1 (Ev.ite_pos (by omega) (Ev.ite_pos (by omega) (Ev.ite_pos (by omega) ev)))))
      · have hv := right_len2 hr h2
        obtain ⟨M2, B2, ev, e1, e2, e3⟩ := fin (M.set ((j : Int)).toNat (rd vs (i : Int))) (by rw [List.length_set]; exact hM)
        refine ⟨M2, B2, start ?_, e1, e2, e3⟩
        rw [decide_eq_false hge]
        exact Ev.step (fun k => clinkerref07_Apply.j1.eq_2 ..) (Ev.ite_neg (by simp) (Ev.ite_neg (by omega) (Ev.ite_pos h2 (Ev.ite_pos (by omega) (Ev.ite_pos (by omega) (Ev.ite_pos (by omega) (Ev.ite_pos (by omega) (Ev.ite_pos (by omega) ev))))))))
/-- Who told last of a sector. -/
def byL (L : List Fnd) (s : Nat) : Int := L.foldl (fun a f => if (s : Int) ∈ f.f1.f2 then f.f0 else a) (-1)
theorem byL_succ (L : List Fnd) (i s : Nat) (hi : i < L.length) : byL (L.take (i + 1)) s = if (s : Int) ∈ (rd_T44 L (i : Int)).f1.f2 then (rd_T44 L (i : Int)).f0 else byL (L.take i) s := by
  have e : rd_T44 L (i : Int) = L[i] := by
    show L.getD (i : Int).toNat zF = L[i]
    rw [Int.toNat_natCast, List.getD_eq_getElem?_getD, List.getElem?_eq_getElem hi]
    rfl
  unfold byL
  rw [List.take_succ_eq_append_getElem hi, List.foldl_append, e]
  rfl
theorem apply_ev (n : Nat) (hn : n ≤ 64) (f : Fnd) (hf : okF f) (M B : List Int) (hM : M.length = n) (hB : B.length = n) : ∃ M' B', Ev (fun k => clinkerref07_Apply.f k M B f.f0 f.f1.f0 f.f1.f1 f.f1.f2 f.f1.f3) (M', B') ∧ M'.length = n ∧ B'.length = n ∧ ∀ s : Nat, s < n → B'.getD s 0 = if ((s : Nat) : Int) ∈ f.f1.f2 then f.f0 else B.getD s 0 := by
  obtain ⟨M', B', ev, e1, e2, e3⟩ := ap_l0 n hn f.f0 f.f1.f0 f.f1.f1 f.f1.f2 f.f1.f3 hf f.f1.f2.length 0 M B (by omega) hM hB
  refine ⟨M', B', ?_, e1, e2, e3⟩
  unfold clinkerref07_Apply.f
  refine Ev.ite_pos (by rw [List.length_nil]; omega) (Ev.ite_pos (by rw [List.length_nil]; omega) ?_)
  rw [List.nil_append, List.nil_append]
  exact ev
theorem rep_l0 (L : List Fnd) (hL : WF 512 L) (n : Nat) (hn : n ≤ 64) : ∀ (d i : Nat) (q : Int) (M B : List Int), i + d = L.length → M.length = n → B.length = n → (∀ s : Nat, s < n → B.getD s 0 = byL (L.take i) s) →
    ∃ M' B' q', Ev (fun k => clinkerref07_Replay.l0 k L q (i : Int) M B) (M', B', q') ∧ M'.length = n ∧ B'.length = n ∧ ∀ s : Nat, s < n → B'.getD s 0 = byL L s
  | 0, i, q, M, B, hi, hM, hB, hb => ⟨M, B, q, Ev.step (fun k => clinkerref07_Replay.l0.eq_2 ..) (Ev.ite_neg (by omega) (Ev.now _)), hM, hB, fun s hs => by rw [hb s hs, List.take_of_length_le (by omega)]⟩
  | d + 1, i, q, M, B, hi, hM, hB, hb => by
    have hlen := hL.1
    have hok : okF (rd_T44 L (i : Int)) := (hL.2.1 _ (by
      have := drop_rdF L i (by omega)
      exact List.mem_of_mem_drop (this ▸ List.mem_cons_self ..))).1
    obtain ⟨M1, B1, ev1, e1, e2, e3⟩ := apply_ev n hn _ hok M B hM hB
    obtain ⟨M', B', q', ev, g1, g2, g3⟩ := rep_l0 L hL n hn d (i + 1) (mx q (wrap64 ((rd_T44 L (i : Int)).f1.f1 + 1))) M1 B1 (by omega) e1 e2 (fun s hs => by rw [e3 s hs, byL_succ L i s (by omega), hb s hs])
    refine ⟨M', B', q', Ev.step (fun k => clinkerref07_Replay.l0.eq_2 ..) (Ev.ite_pos (by omega) (Ev.ite_pos (by omega) (Ev.bind ev1 ?_))), g1, g2, g3⟩
    rw [wrap_succ (by omega)]
    exact ev
/-- The table of a chip: who told last of each sector stands in its second list. -/
theorem replay_ev {l : List Blk} {br off : Bool} {ops m : Int} {B P : Nat} (h : GM B P m l) (hB : B ≤ 32) (hP : P ≤ 16) (n : Nat) (hn : n ≤ 64) :
    ∃ L M Y q, WF 512 L ∧ Ev (fun k => clinkerref06_All.f k l br off ops) L ∧ Ev (fun k => clinkerref07_Replay.f k l br off ops (n : Int)) (M, Y, q) ∧ M.length = n ∧ Y.length = n ∧ ∀ s : Nat, s < n → Y.getD s 0 = byL L s := by
  obtain ⟨L, hL, ev⟩ := all_ev (br := br) (off := off) (ops := ops) h hB hP
  obtain ⟨M, Y, q, ev2, e1, e2, e3⟩ := rep_l0 L hL n hn L.length 0 0 (List.replicate n (-1)) (List.replicate n (-1)) (by omega) (by simp) (by simp) (fun s hs => by
    rw [List.take_zero, List.getD_eq_getElem?_getD, List.getElem?_replicate, if_pos hs]
    rfl)
  exact ⟨L, M, Y, q, hL, ev, Ev.bind (new_ev n hn) (Ev.bind ev ev2), e1, e2, e3⟩
end Go.Proofs.Ytfolonajajideaa.X
