/- The statements LiveSmall and LiveParts over numbers and lists alone. -/
import Derived.Test.YtfolonajajideaaLivePure
namespace Go.Proofs.Ytfolonajajideaa.X
open Go.RowKit Go.Proofs.Ytfolonajajideaa.PAll Go.Proofs.YtfolonajajideaaW.PrintWords Go.Proofs.YtfolonajajideaaW.PrintLast Go.Proofs.YtfolonajajideaaW.PrintMore

theorem wf_u8 {a : Int} (h : (Lit.int .u8 a).wf = true) : 0 ≤ a ∧ a ≤ 255 := by
  simp [Lit.wf, IntKind.min, IntKind.max, IntKind.bits, IntKind.signed] at h
  omega
theorem rd_mem {l : List Int} {P : Int → Prop} (h : ∀ x ∈ l, P x) (i : Nat) (hi : i < l.length) : P (rd l (i : Int)) := by
  rw [rd_get, List.getElem?_eq_getElem hi]
  exact h _ (List.getElem_mem hi)
/-- Small numbers out of bytes. -/
def smallL (m : Int) (l : List Int) (i : Nat) : List Int := (l.take i).map fun x => x % m - 1
theorem smallL_succ (m : Int) (l : List Int) (i : Nat) (hi : i < l.length) : smallL m l (i + 1) = smallL m l i ++ [rd l (i : Int) % m - 1] := by
  unfold smallL
  rw [List.take_succ_eq_append_getElem hi, List.map_append, rd_get, List.getElem?_eq_getElem hi]
  rfl
theorem smallL_len (m : Int) (l : List Int) (i : Nat) : (smallL m l i).length = min i l.length := by
  unfold smallL
  rw [List.length_map, List.length_take]
theorem small_val {m x : Int} (hm : 1 ≤ m) (hm2 : m ≤ 100) (h : 0 ≤ x ∧ x ≤ 255) : wrap64 (Int.tmod (wrap64 x) m - 1) = x % m - 1 := by
  have h1 := Int.emod_nonneg x (show m ≠ 0 by omega)
  have h2 := Int.emod_lt_of_pos x (show 0 < m by omega)
  rw [wrap64_in (i := x) (by omega) (by omega), Int.tmod_eq_emod_of_nonneg h.1, wrap64_in (by omega) (by omega)]

theorem small_l2 (p : Int) (t u : List Int) (h0 : t.length ≤ big) (h1 : u.length ≤ big) : ∀ (d : Nat) (b : Int), b + d = 4 → -1 ≤ b →
    Ev (fun k => clinkerlaw08_LiveSmall.l2 k p b t u) true
  | 0, b, hb, _ => by
    obtain rfl : b = 4 := by omega
    exact Ev.step (fun k => clinkerlaw08_LiveSmall.l2.eq_2 ..) (Ev.ite_neg (by omega) (Ev.bind awake_ev (Ev.now true)))
  | d + 1, b, hb, hb1 => by
    have ih := small_l2 p t u h0 h1 d (b + 1) (by omega) (by omega)
    refine Ev.step (fun k => clinkerlaw08_LiveSmall.l2.eq_2 ..) (Ev.ite_pos (by omega) (Ev.bind (lsame_ev t u _ b h0 h1) (Ev.ite_pos rfl ?_)))
    rw [wrap64_in (by omega) (by omega)]
    exact ih
theorem small_l1 (l : List Int) (hw : ∀ x ∈ l, 0 ≤ x ∧ x ≤ 255) (p : Int) (t : List Int) (h0 : t.length ≤ big) : ∀ (d i : Nat), i + d = min l.length 64 →
    Ev (fun k => clinkerlaw08_LiveSmall.l1 k l p (i : Int) t (smallL 40 l i)) true
  | 0, i, hi => by
    have hs := smallL_len 40 l i
    have fin : Ev (fun k => clinkerlaw08_LiveSmall.j3 k p t (smallL 40 l i)) true :=
      Ev.step (fun k => clinkerlaw08_LiveSmall.j3.eq_2 ..) (small_l2 p t _ h0 (by unfold big; omega) 5 (-1) (by omega) (by omega))
    refine Ev.step (fun k => clinkerlaw08_LiveSmall.l1.eq_2 ..) ?_
    by_cases h : i < l.length
    · exact Ev.ite_pos (by omega) (Ev.ite_neg (by omega) fin)
    · exact Ev.ite_neg (by omega) fin
  | d + 1, i, hi => by
    have ih := small_l1 l hw p t h0 d (i + 1) (by omega)
    have hs := smallL_len 40 l i
    have hr := rd_mem hw i (by omega)
    rw [smallL_succ 40 l i (by omega)] at ih
    refine Ev.step (fun k => clinkerlaw08_LiveSmall.l1.eq_2 ..) (Ev.ite_pos (by omega) (Ev.ite_pos (by omega) (Ev.ite_pos (by omega) (Ev.ite_pos (by omega) ?_))))
    rw [small_val (by omega) (by omega) hr, wrap_succ (by omega)]
    exact ih
theorem small_l0 (l m : List Int) (hw : ∀ x ∈ l, 0 ≤ x ∧ x ≤ 255) (hw2 : ∀ x ∈ m, 0 ≤ x ∧ x ≤ 255) (p : Int) : ∀ (d i : Nat), i + d = min l.length 64 →
    Ev (fun k => clinkerlaw08_LiveSmall.l0 k l m p (i : Int) (smallL 40 l i)) true
  | 0, i, hi => by
    have hs := smallL_len 40 l i
    have fin : Ev (fun k => clinkerlaw08_LiveSmall.j1 k m p (smallL 40 l i)) true :=
      Ev.step (fun k => clinkerlaw08_LiveSmall.j1.eq_2 ..) (small_l1 m hw2 p _ (by unfold big; omega) (min m.length 64) 0 (by omega))
    refine Ev.step (fun k => clinkerlaw08_LiveSmall.l0.eq_2 ..) ?_
    by_cases h : i < l.length
    · exact Ev.ite_pos (by omega) (Ev.ite_neg (by omega) fin)
    · exact Ev.ite_neg (by omega) fin
  | d + 1, i, hi => by
    have ih := small_l0 l m hw hw2 p d (i + 1) (by omega)
    have hs := smallL_len 40 l i
    have hr := rd_mem hw i (by omega)
    rw [smallL_succ 40 l i (by omega)] at ih
    refine Ev.step (fun k => clinkerlaw08_LiveSmall.l0.eq_2 ..) (Ev.ite_pos (by omega) (Ev.ite_pos (by omega) (Ev.ite_pos (by omega) (Ev.ite_pos (by omega) ?_))))
    rw [small_val (by omega) (by omega) hr, wrap_succ (by omega)]
    exact ih
theorem law_LiveSmall : clinkerlaw08_LiveSmall.Pure := by
  intro l m p _ _ hw _ _ hw2 _
  refine Ev.rounds (g := fun k => clinkerlaw08_LiveSmall.f k l m p) ?_
  exact small_l0 l m (fun x hx => wf_u8 (hw x hx)) (fun x hx => wf_u8 (hw2 x hx)) p (min l.length 64) 0 (by omega)

/-! LiveParts -/
/-- How often a sector was told: by the places below x, and by those of the list e. -/
def told (m : List Int) (x : Int) (e : List Int) (s : Nat) : Int := (if 0 ≤ m[s]?.getD 0 ∧ m[s]?.getD 0 < x then 1 else 0) + (if ((s : Int)) ∈ e then 1 else 0)
def toldL (m : List Int) (x : Int) (e : List Int) : List Int := (List.range m.length).map (told m x e)
theorem toldL_len (m : List Int) (x : Int) (e : List Int) : (toldL m x e).length = m.length := by
  unfold toldL
  rw [List.length_map, List.length_range]
theorem toldL_get (m : List Int) (x : Int) (e : List Int) (s : Nat) (hs : s < m.length) : rd (toldL m x e) (s : Int) = told m x e s := by
  rw [rd_get]
  unfold toldL
  rw [List.getElem?_map, List.getElem?_range hs]
  rfl
theorem idxTo_sorted (zs : List Int) (p : Int) (k : Nat) : (idxTo zs p k).Pairwise (· < ·) := by
  unfold idxTo
  rw [List.pairwise_map]
  have h := (List.pairwise_lt_range (n := k)).filter (fun i => decide (0 ≤ p) && (zs[i]?.getD 0 == p))
  exact h.imp (fun h => by omega)
theorem toldL_set (m : List Int) (x : Int) (o : List Int) (ho : o.Pairwise (· < ·)) (i : Nat) (hi : i < o.length) (s : Nat) (hs : rd o (i : Int) = (s : Int)) (hm : s < m.length) :
    (toldL m x (o.take i)).set s (rd (toldL m x (o.take i)) (s : Int) + 1) = toldL m x (o.take (i + 1)) := by
  have e : o[i] = (s : Int) := by
    rw [rd_get, List.getElem?_eq_getElem hi] at hs
    exact hs
  have hnot : ((s : Int)) ∉ o.take i := by
    intro h
    obtain ⟨j, hj, e2⟩ := List.mem_iff_getElem.mp h
    rw [List.length_take] at hj
    rw [List.getElem_take] at e2
    have := List.pairwise_iff_getElem.mp ho j i (by omega) hi (by omega)
    omega
  apply List.ext_getElem
  · rw [List.length_set, toldL_len, toldL_len]
  · intro j h1 h2
    rw [toldL_len] at h2
    rw [List.getElem_set]
    have g : ∀ (e : List Int) (h : j < (toldL m x e).length), (toldL m x e)[j] = told m x e j := by
      intro e h
      have h3 := toldL_get m x e j h2
      rw [rd_get, List.getElem?_eq_getElem h] at h3
      exact h3
    by_cases hj : s = j
    · subst hj
      rw [if_pos rfl, toldL_get m x _ s hm, g]
      unfold told
      rw [if_neg hnot, if_pos (show (s : Int) ∈ o.take (i + 1) by rw [List.take_succ_eq_append_getElem hi, e]; simp)]
      omega
    · rw [if_neg hj, g, g]
      unfold told
      congr 1
      rw [List.take_succ_eq_append_getElem hi, e]
      have : ((j : Int) ∈ o.take i ++ [(s : Int)]) ↔ ((j : Int) ∈ o.take i) := by
        rw [List.mem_append, List.mem_singleton]
        constructor
        · rintro (h | h)
          · exact h
          · omega
        · exact .inl
      simp only [this]
theorem toldL_next (m : List Int) (x : Int) : toldL m x (idxTo m x m.length) = toldL m (x + 1) [] := by
  unfold toldL
  apply List.map_congr_left
  intro s hs
  rw [List.mem_range] at hs
  unfold told
  have e : ((s : Int) ∈ idxTo m x m.length) ↔ (0 ≤ x ∧ m[s]?.getD 0 = x) := by
    rw [mem_idxTo]
    constructor
    · rintro ⟨i, _, h, h2, h3⟩
      obtain rfl : s = i := by omega
      exact ⟨h2, h3⟩
    · rintro ⟨h2, h3⟩
      exact ⟨s, hs, rfl, h2, h3⟩
  simp only [e, List.not_mem_nil, if_false]
  generalize m[s]?.getD 0 = v
  by_cases h1 : 0 ≤ v ∧ v < x
  · rw [if_pos h1, if_neg (by omega), if_pos (by omega)]
  · rw [if_neg h1]
    by_cases h2 : 0 ≤ x ∧ v = x
    · rw [if_pos h2, if_pos (by omega)]
      rfl
    · rw [if_neg h2, if_neg (by omega)]
theorem told_range (m : List Int) (x : Int) (e : List Int) (s : Nat) : 0 ≤ told m x e s ∧ told m x e s ≤ 2 := by
  unfold told
  split <;> split <;> omega
theorem parts_l3 (m : List Int) (hm : ∀ x ∈ m, -1 ≤ x ∧ x < 19) (hl : m.length ≤ 64) : ∀ (d s : Nat), s + d = m.length →
    Ev (fun k => clinkerlaw08_LiveParts.l3 k true (toldL m 20 []) (s : Int) m) true
  | 0, s, hs => Ev.step (fun k => clinkerlaw08_LiveParts.l3.eq_2 ..) (Ev.ite_neg (by rw [toldL_len]; omega) (Ev.now true))
  | d + 1, s, hs => by
    have ih := parts_l3 m hm hl d (s + 1) (by omega)
    have hr := rd_mem hm s (by omega)
    refine Ev.step (fun k => clinkerlaw08_LiveParts.l3.eq_2 ..) (Ev.ite_pos (by rw [toldL_len]; omega) (Ev.ite_pos (by omega) (Ev.ite_pos (by omega) ?_)))
    rw [toldL_get m 20 [] s (by omega), wrap_succ (by omega)]
    unfold told
    rw [← rd_get]
    by_cases h : rd m (s : Int) < 0
    · exact Ev.ite_pos h (Ev.ite_pos (by rw [if_neg (by omega)]; simp) ih)
    · exact Ev.ite_neg h (Ev.ite_pos (by rw [if_pos (by omega)]; simp) ih)
theorem parts_l2 (m : List Int) (hl : m.length ≤ 64) (x : Int) (next : Ev (fun k => clinkerlaw08_LiveParts.l1 k true (toldL m (x + 1) []) (wrap64 (x + 1)) m) true) : ∀ (d i : Nat), i + d = (idxTo m x m.length).length →
    Ev (fun k => clinkerlaw08_LiveParts.l2 k true (toldL m x ((idxTo m x m.length).take i)) x (idxTo m x m.length) (i : Int) m) true
  | 0, i, hi => by
    rw [List.take_of_length_le (by omega), toldL_next]
    exact Ev.step (fun k => clinkerlaw08_LiveParts.l2.eq_2 ..) (Ev.ite_neg (by omega) next)
  | d + 1, i, hi => by
    have ih := parts_l2 m hl x next d (i + 1) (by omega)
    have hlen := idxTo_length m x m.length
    have hso := idxTo_sorted m x m.length
    have hin : rd (idxTo m x m.length) (i : Int) ∈ idxTo m x m.length := by
      rw [rd_get, List.getElem?_eq_getElem (by omega)]
      exact List.getElem_mem (by omega)
    obtain ⟨s, hs, e, hx0, hv⟩ := mem_idxTo.mp hin
    have step := toldL_set m x _ hso i (by omega) s e hs
    rw [← step] at ih
    have hlt : (toldL m x ((idxTo m x m.length).take i)).length = m.length := toldL_len _ _ _
    have hrange := told_range m x ((idxTo m x m.length).take i) s
    have hget := toldL_get m x ((idxTo m x m.length).take i) s hs
    refine Ev.step (fun k => clinkerlaw08_LiveParts.l2.eq_2 ..) (Ev.ite_pos (by omega) (Ev.ite_pos (by omega) ?_))
    rw [e, rd_get m s, hv, Int.toNat_natCast, wrap_succ (by omega), wrap64_in (i := rd (toldL m x ((idxTo m x m.length).take i)) (s : Int) + 1) (by omega) (by omega)]
    refine Ev.ite_neg (by omega) (Ev.ite_neg (by rw [hlt]; omega) (Ev.ite_pos (by omega) (Ev.ite_pos (by omega) (Ev.ite_pos rfl ?_))))
    by_cases h0 : (i : Int) > 0
    · obtain ⟨j, rfl⟩ : ∃ j, i = j + 1 := ⟨i - 1, by omega⟩
      have ej : wrap64 (((j + 1 : Nat) : Int) - 1) = (j : Int) := by rw [wrap64_in (by omega) (by omega)]; omega
      have hlt2 : rd (idxTo m x m.length) (j : Int) < (s : Int) := by
        rw [← e, rd_get, rd_get, List.getElem?_eq_getElem (show j < _ by omega), List.getElem?_eq_getElem (show j + 1 < _ by omega)]
        exact List.pairwise_iff_getElem.mp hso j (j + 1) (by omega) (by omega) (by omega)
      rw [ej]
      exact Ev.ite_pos h0 (Ev.ite_pos (by omega) (Ev.ite_pos (by omega) (Ev.ite_neg (by omega) (Ev.ite_pos (by rw [hlt]; omega) ih))))
    · exact Ev.ite_neg h0 (Ev.ite_pos (by rw [hlt]; omega) ih)
theorem parts_l1 (m : List Int) (hm : ∀ x ∈ m, -1 ≤ x ∧ x < 19) (hl : m.length ≤ 64) : ∀ (d : Nat) (x : Int), x + d = 20 → -1 ≤ x →
    Ev (fun k => clinkerlaw08_LiveParts.l1 k true (toldL m x []) x m) true
  | 0, x, hx, _ => by
    obtain rfl : x = 20 := by omega
    exact Ev.step (fun k => clinkerlaw08_LiveParts.l1.eq_2 ..) (Ev.ite_neg (by omega) (parts_l3 m hm hl m.length 0 (by omega)))
  | d + 1, x, hx, hx1 => by
    have ih := parts_l1 m hm hl d (x + 1) (by omega) (by omega)
    have e : wrap64 (x + 1) = x + 1 := wrap64_in (by omega) (by omega)
    refine Ev.step (fun k => clinkerlaw08_LiveParts.l1.eq_2 ..) (Ev.ite_pos (by omega) ?_)
    rw [owners_eq m [] x (by unfold big; omega)]
    refine Ev.pure_ ?_
    have h2 := parts_l2 m hl x (by rw [e]; exact ih) (idxTo m x m.length).length 0 (by omega)
    rw [List.take_zero] at h2
    exact h2
theorem parts_l0 (l : List Int) (hw : ∀ x ∈ l, 0 ≤ x ∧ x ≤ 255) : ∀ (d i : Nat), i + d = min l.length 64 →
    Ev (fun k => clinkerlaw08_LiveParts.l0 k l true (i : Int) (smallL 20 l i)) true
  | 0, i, hi => by
    have hs := smallL_len 20 l i
    have hm : ∀ x ∈ smallL 20 l i, -1 ≤ x ∧ x < 19 := by
      intro x hx
      unfold smallL at hx
      obtain ⟨y, _, rfl⟩ := List.mem_map.mp hx
      omega
    have fin : Ev (fun k => clinkerlaw08_LiveParts.j1 k true (smallL 20 l i)) true := by
      have h := parts_l1 (smallL 20 l i) hm (by omega) 21 (-1) (by omega) (by omega)
      have e : toldL (smallL 20 l i) (-1) [] = List.replicate (smallL 20 l i).length 0 := by
        apply List.ext_getElem
        · rw [toldL_len, List.length_replicate]
        · intro j h1 h2
          rw [List.getElem_replicate]
          rw [toldL_len] at h1
          have h3 := toldL_get (smallL 20 l i) (-1) [] j h1
          rw [rd_get, List.getElem?_eq_getElem (by rw [toldL_len]; exact h1)] at h3
          refine h3.trans ?_
          unfold told
          rw [if_neg (by omega), if_neg (by simp)]
          rfl
      rw [e] at h
      refine Ev.step (fun k => clinkerlaw08_LiveParts.j1.eq_2 ..) (Ev.ite_pos (by omega) ?_)
      rw [Int.toNat_natCast]
      exact Ev.ite_pos (by omega) h
    refine Ev.step (fun k => clinkerlaw08_LiveParts.l0.eq_2 ..) ?_
    by_cases h : i < l.length
    · exact Ev.ite_pos (by omega) (Ev.ite_neg (by omega) fin)
    · exact Ev.ite_neg (by omega) fin
  | d + 1, i, hi => by
    have ih := parts_l0 l hw d (i + 1) (by omega)
    have hs := smallL_len 20 l i
    have hr := rd_mem hw i (by omega)
    rw [smallL_succ 20 l i (by omega)] at ih
    refine Ev.step (fun k => clinkerlaw08_LiveParts.l0.eq_2 ..) (Ev.ite_pos (by omega) (Ev.ite_pos (by omega) (Ev.ite_pos (by omega) (Ev.ite_pos (by omega) ?_))))
    rw [small_val (by omega) (by omega) hr, wrap_succ (by omega)]
    exact ih
theorem law_LiveParts : clinkerlaw08_LiveParts.Pure := by
  intro l _ _ hw
  refine Ev.rounds (g := fun k => clinkerlaw08_LiveParts.f k l) ?_
  exact Ev.bind awake_ev (Ev.ite_pos rfl (parts_l0 l (fun x hx => wf_u8 (hw x hx)) (min l.length 64) 0 (by omega)))

end Go.Proofs.Ytfolonajajideaa.X
