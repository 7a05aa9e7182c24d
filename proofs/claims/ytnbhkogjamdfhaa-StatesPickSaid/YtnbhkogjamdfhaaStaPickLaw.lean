/- StatesPick over numbers and lists: who picks, writes and picks again picks another one, that is worn as much. -/
import Derived.Test.YtnbhkogjamdfhaaStaOps
import Derived.Test.YtnbhkogjamdfhaaPAllx8
import Derived.Test.YtnbhkogjamdfhaaPAllx10
namespace Go.Proofs.Ytnbhkogjamdfhaa.X
open Go.RowKit Go.Proofs.Ytnbhkogjamdfhaa.PAll Go.Proofs.YtnbhkogjamdfhaaW.PrintWords Go.Proofs.YtnbhkogjamdfhaaW.PrintLast Go.Proofs.YtnbhkogjamdfhaaW.PrintMore
set_option linter.unusedVariables false
set_option linter.unusedSimpArgs false
theorem Ev.of_mono {α : Type} {g : Nat → Option α} {r : α} (hm : ∀ k, LeO (g k) (g (k + 1))) (k0 : Nat) (h : g k0 = some r) : Ev g r :=
  ⟨k0, fun k hk => by
    induction k with
    | zero => obtain rfl : k0 = 0 := by omega
              exact h
    | succ k ih =>
      by_cases e : k0 = k + 1
      · rw [← e]; exact h
      · exact hm k r (ih (by omega))⟩
theorem mem_inN {l : List Blk} {o s : Int} {k i : Nat} : i ∈ inN l o s k ↔ i < k ∧ staV l o i = s := by
  unfold inN
  simp
theorem rdB_mem {l : List Blk} {b : Int} (h0 : 0 ≤ b) (h1 : b < l.length) : rdB l b ∈ l := List.mem_of_getElem? (rdB_at h0 h1)
theorem rdB_set {l : List Blk} {b : Int} (h0 : 0 ≤ b) (h1 : b < l.length) (y : Blk) : rdB (l.set b.toNat y) b = y := by
  show (l.set b.toNat y).getD b.toNat zB = y
  rw [List.getD_eq_getElem?_getD, List.getElem?_set_self (by omega)]
  rfl
theorem rdB_set_ne {l : List Blk} {b i : Int} (h0 : 0 ≤ b) (hi : 0 ≤ i) (hne : i ≠ b) (y : Blk) : rdB (l.set b.toNat y) i = rdB l i := by
  show (l.set b.toNat y).getD i.toNat zB = l.getD i.toNat zB
  rw [List.getD_eq_getElem?_getD, List.getD_eq_getElem?_getD, List.getElem?_set_ne (by omega)]
theorem pick_min (l : List Blk) : ∀ (ns : List Nat) (b : Int), 0 ≤ b →
    (ns.foldl (pickS l) b = b ∨ ∃ n ∈ ns, ns.foldl (pickS l) b = ((n : Nat) : Int)) ∧ (rdB l (ns.foldl (pickS l) b)).f2 ≤ (rdB l b).f2 ∧ ∀ n ∈ ns, (rdB l (ns.foldl (pickS l) b)).f2 ≤ (rdB l ((n : Nat) : Int)).f2
  | [], b, h => ⟨.inl rfl, Int.le_refl _, fun n hn => by cases hn⟩
  | n :: ns, b, h => by
    rw [List.foldl_cons]
    by_cases hc : (rdB l ((n : Nat) : Int)).f2 < (rdB l b).f2
    · rw [show pickS l b n = (n : Int) by unfold pickS; rw [if_pos (.inr hc)]]
      obtain ⟨h1, h2, h3⟩ := pick_min l ns (n : Int) (by omega)
      refine ⟨.inr ?_, by omega, fun m hm => ?_⟩
      · rcases h1 with h1 | ⟨m, hm, h1⟩
        · exact ⟨n, by simp, h1⟩
        · exact ⟨m, by simp [hm], h1⟩
      · rcases List.mem_cons.1 hm with rfl | hm
        · exact h2
        · exact h3 m hm
    · rw [show pickS l b n = b by unfold pickS; rw [if_neg (by omega)]]
      obtain ⟨h1, h2, h3⟩ := pick_min l ns b h
      refine ⟨h1.imp id (fun ⟨m, hm, e⟩ => ⟨m, by simp [hm], e⟩), h2, fun m hm => ?_⟩
      rcases List.mem_cons.1 hm with rfl | hm
      · omega
      · exact h3 m hm
theorem pickN_spec (l : List Blk) (ns : List Nat) : (ns = [] ∧ pickN l ns = -1) ∨ (∃ n ∈ ns, pickN l ns = ((n : Nat) : Int)) ∧ ∀ m ∈ ns, (rdB l (pickN l ns)).f2 ≤ (rdB l ((m : Nat) : Int)).f2 := by
  cases ns with
  | nil => exact .inl ⟨rfl, rfl⟩
  | cons n ns =>
    refine .inr ?_
    have e : pickN l (n :: ns) = ns.foldl (pickS l) (n : Int) := by
      unfold pickN
      rw [List.foldl_cons, show pickS l (-1) n = (n : Int) by unfold pickS; rw [if_pos (.inl (by omega))]]
    rw [e]
    obtain ⟨h1, h2, h3⟩ := pick_min l ns (n : Int) (by omega)
    refine ⟨?_, fun m hm => ?_⟩
    · rcases h1 with h1 | ⟨m, hm, h1⟩
      · exact ⟨n, by simp, h1⟩
      · exact ⟨m, by simp [hm], h1⟩
    · rcases List.mem_cons.1 hm with rfl | hm
      · exact h2
      · exact h3 m hm
theorem free_out {l : List Blk} {i : Int} (h : staV l (-1) i = 0) : (0 ≤ i ∧ i < l.length) ∧ (rdB l i).f3 = false ∧ (rdB l i).f1 = 0 := by
  unfold staV at h
  split at h
  · rename_i hi
    refine ⟨hi, ?_⟩
    unfold staB at h
    split at h
    · omega
    · rename_i h3
      split at h
      · omega
      · split at h
        · omega
        · rename_i h5
          refine ⟨Bool.eq_false_iff.2 h3, ?_⟩
          by_cases h6 : (rdB l i).f1 = 0
          · exact h6
          · exact absurd (.inl h6) h5
  · omega
/-- B blocks of three pages, none of them Bad. -/
def Gp (B : Nat) (l : List Blk) : Prop := sm l = true ∧ l.length = B ∧ ∀ x ∈ l, x.f0.length = 3 ∧ x.f3 = false
theorem Gp.era {B : Nat} {l : List Blk} (h : Gp B l) (br : Bool) (ops : Int) {b : Int} (h0 : 0 ≤ b) (h1 : b < l.length) : ∃ l2 ops2, eraV l br false ops b 0 0 = (l2, br, false, ops2, 0) ∧ Gp B l2 := by
  have hx := h.2.2 _ (rdB_mem h0 h1)
  have hm : mayB l b 0 = true := may_iff.2 ⟨h0, h1, by omega, by omega, hx.2⟩
  refine ⟨l.set b.toNat (eraB (rdB l b) 0 0), wrap64 (ops + 1), ?_, sm_set h.1 (by rw [eraB_len]; exact sm_rd h.1 b) _, by rw [List.length_set]; exact h.2.1, all_set (P := fun x => x.f0.length = 3 ∧ x.f3 = false) h.2.2 (y := eraB (rdB l b) 0 0) ⟨by rw [eraB_len]; exact hx.1, hx.2⟩ _⟩
  unfold eraV
  rw [if_neg (by simp), if_pos hm, if_neg (by simp)]
  rfl
theorem Gp.prog {B : Nat} {l : List Blk} (h : Gp B l) (br : Bool) (ops : Int) {b : Int} (hf : staV l (-1) b = 0) : ∃ y ops2, progV l br false ops b 0 (⟨#[]⟩ : ByteArray) (⟨#[]⟩ : ByteArray) 0 (⟨#[]⟩ : ByteArray) (⟨#[]⟩ : ByteArray) = (l.set b.toNat y, br, false, ops2, 0) ∧ Gp B (l.set b.toNat y) ∧ y.f1 = 1 := by
  obtain ⟨⟨h0, h1⟩, h3, hn⟩ := free_out hf
  have hx := h.2.2 _ (rdB_mem h0 h1)
  have hm : mayP l b 0 0 = true := mayP_iff.2 ⟨may_iff.2 ⟨h0, h1, by omega, by omega, h3⟩, by omega, by omega, hn⟩
  refine ⟨progB (rdB l b) 0 0 (⟨#[]⟩ : ByteArray) (⟨#[]⟩ : ByteArray) (⟨#[]⟩ : ByteArray) (⟨#[]⟩ : ByteArray), wrap64 (ops + 1), ?_, ⟨sm_set h.1 (by rw [progB_len]; exact sm_rd h.1 b) _, by rw [List.length_set]; exact h.2.1, all_set (P := fun x => x.f0.length = 3 ∧ x.f3 = false) h.2.2 ⟨by rw [progB_len]; exact hx.1, rfl⟩ _⟩, rfl⟩
  unfold progV
  rw [if_neg (by simp), if_pos hm]
  rfl
/-- What is picked behind the write. -/
theorem next_pick {l : List Blk} {b : Int} {y : Blk} (hf : staV l (-1) b = 0) (hb : b = pickN l (inN l (-1) 0 l.length)) (hy : y.f1 = 1) {k : Int} (hk : k = pickN (l.set b.toNat y) (inN (l.set b.toNat y) (-1) 0 (l.set b.toNat y).length)) :
    k ≠ b ∧ (k < 0 ∨ (0 ≤ k ∧ k < l.length) ∧ (rdB l b).f2 ≤ (rdB l k).f2) := by
  obtain ⟨⟨h0, h1⟩, h3, hn⟩ := free_out hf
  rcases pickN_spec (l.set b.toNat y) (inN (l.set b.toNat y) (-1) 0 (l.set b.toNat y).length) with ⟨_, e⟩ | ⟨⟨n, hm, e⟩, _⟩
  · rw [← hk] at e
    omega
  · rw [← hk] at e
    obtain ⟨hl, hs⟩ := mem_inN.1 hm
    rw [List.length_set] at hl
    rw [← e] at hs
    obtain ⟨⟨g0, g1⟩, g3, gn⟩ := free_out hs
    rw [List.length_set] at g1
    have hne : k ≠ b := by
      intro e2
      rw [e2, rdB_set h0 h1] at gn
      omega
    refine ⟨hne, .inr ⟨⟨g0, g1⟩, ?_⟩⟩
    have hs2 : staV l (-1) k = 0 := by
      rw [← hs]
      unfold staV
      rw [List.length_set, rdB_set_ne h0 g0 hne]
    rcases pickN_spec l (inN l (-1) 0 l.length) with ⟨_, e3⟩ | ⟨_, hmin⟩
    · omega
    · rw [← hb] at hmin
      have := hmin n (mem_inN.2 ⟨hl, by rw [← e]; exact hs2⟩)
      rw [← e] at this
      exact this
theorem awake_ev : Ev (fun k => clinkerlaw10_awake.f k) true := Ev.of_mono clinkerlaw10_awake.mono 6 (by kernel_rfl)
theorem spick_j2 (zs : List St) (i : Nat) (B : Nat) (hi : (i : Int) ≤ 12) {l : List Blk} (h : Gp B l) (br : Bool) (ops : Int) (ih : ∀ l2 ops2, Gp B l2 → Ev (fun k => clinkerlaw10_StatesPick.l0 k zs true ((i + 1 : Nat) : Int) l2 br false ops2) true) (x60 : Bool) (p : Int) (hp : p = pickN l (inN l (-1) 0 l.length)) (hx : x60 = true ↔ p < 0) :
    Ev (fun k => clinkerlaw10_StatesPick.j2 k zs true (i : Int) p x60 l br false ops) true := by
  refine Ev.step (fun k => clinkerlaw10_StatesPick.j2.eq_2 ..) ?_
  have hw : wrap64 ((i : Int) + 1) = ((i + 1 : Nat) : Int) := by rw [wrap64_in (by omega) (by omega)]; omega
  rw [hw]
  by_cases h60 : x60 = true
  · have hneg := hx.1 h60
    rcases pickN_spec l (inN l (-1) 0 l.length) with ⟨e1, e2⟩ | ⟨⟨n, hm, e⟩, _⟩
    · refine Ev.ite_pos h60 (Ev.ite_pos rfl (Ev.ite_pos (by rw [hp, e2]) (Ev.have_ (show states_Many.f l br false ops (-1) 0 = some 0 by unfold states_Many.f; rw [e1]; rfl) (Ev.now true))))
    · omega
  · have hpos : ¬ p < 0 := fun e => h60 (hx.2 e)
    rcases pickN_spec l (inN l (-1) 0 l.length) with ⟨e1, e2⟩ | ⟨⟨n, hm, e⟩, _⟩
    · omega
    have hf : staV l (-1) p = 0 := by rw [hp, e]; exact (mem_inN.1 hm).2
    obtain ⟨⟨h0, h1⟩, _, _⟩ := free_out hf
    obtain ⟨y, ops2, hv, hG, hy⟩ := h.prog br ops hf
    obtain ⟨q, hq⟩ : ∃ q, q = pickN (l.set p.toNat y) (inN (l.set p.toNat y) (-1) 0 (l.set p.toNat y).length) := ⟨_, rfl⟩
    obtain ⟨q1, q2⟩ := next_pick hf hp hy hq
    refine Ev.ite_neg h60 (Ev.have_ (rprog_f h.1 _ _ _ _ _ _ _ _ _ _ _ _) ?_)
    rw [hv]
    refine Ev.have_ (show states_Pick.f (l.set p.toNat y) br false ops2 (-1) = some q by rw [hq]; rfl) (Ev.ite_neg q1 ?_)
    rcases q2 with q2 | ⟨⟨q2, q3⟩, q4⟩
    · exact Ev.ite_neg (by omega) (Ev.ite_neg (by omega) (ih _ _ hG))
    · exact Ev.ite_neg (by omega) (Ev.ite_pos (by omega) (Ev.ite_pos q2 (Ev.ite_pos q3 (Ev.ite_pos h0 (Ev.ite_pos h1 (Ev.ite_neg (show ¬ (rdB l q).f2 < (rdB l p).f2 by omega) (ih _ _ hG)))))))
theorem spick_l0 (zs : List St) (hl : zs.length ≤ 9223372036854775807) (hz : ∀ s ∈ zs, SB s) (B : Nat) (hB : 0 < B) (br : Bool) : ∀ (d i : Nat) (l : List Blk) (ops : Int), 12 - i = d → Gp B l → Ev (fun k => clinkerlaw10_StatesPick.l0 k zs true (i : Int) l br false ops) true := by
  intro d
  induction d with
  | zero =>
    intro i l ops hd h
    refine Ev.step (fun k => clinkerlaw10_StatesPick.l0.eq_2 ..) ?_
    by_cases hi : (i : Int) < (zs.length : Int)
    · exact Ev.ite_pos hi (Ev.step (fun k => clinkerlaw10_StatesPick.j1.eq_2 ..) (Ev.ite_neg (not_dec (by omega)) (Ev.now true)))
    · exact Ev.ite_neg hi (Ev.step (fun k => clinkerlaw10_StatesPick.j1.eq_2 ..) (Ev.ite_neg (by simp) (Ev.now true)))
  | succ d ih =>
    intro i l ops hd h
    refine Ev.step (fun k => clinkerlaw10_StatesPick.l0.eq_2 ..) ?_
    by_cases hi : (i : Int) < (zs.length : Int)
    case neg => exact Ev.ite_neg hi (Ev.step (fun k => clinkerlaw10_StatesPick.j1.eq_2 ..) (Ev.ite_neg (by simp) (Ev.now true)))
    refine Ev.ite_pos hi (Ev.step (fun k => clinkerlaw10_StatesPick.j1.eq_2 ..) (Ev.ite_pos (decide_eq_true (by omega)) (Ev.ite_pos (by omega) (Ev.ite_pos hi ?_))))
    have hlen : (l.length : Int) = B := by rw [h.2.1]
    have hm : rd_T38 zs (i : Int) ∈ zs := by
      show zs.getD (i : Int).toNat _ ∈ zs
      rw [Int.toNat_natCast, List.getD_eq_getElem?_getD, List.getElem?_eq_getElem (by omega)]
      exact List.getElem_mem _
    have hs := hz _ hm
    have hb := tmod_in (wrap64 (rd_T38 zs (i : Int)).f1) (by rw [tmod_byte (m := 5) hs.2.1]; exact hs.2.1.1) (show (0 : Int) < (l.length : Int) by omega)
    generalize Int.tmod (wrap64 (rd_T38 zs (i : Int)).f1) (l.length : Int) = b at hb ⊢
    obtain ⟨l2, ops2, hv, h2⟩ := h.era br ops hb.1 hb.2
    refine Ev.ite_neg (by omega) (Ev.have_ (rera_f h.1 _ _ _ _ _ _ _ _) ?_)
    rw [hv]
    refine Ev.have_ (show states_Pick.f l2 br false ops2 (-1) = some (pickN l2 (inN l2 (-1) 0 l2.length)) from rfl) ?_
    have J := fun x60 hx => spick_j2 zs i B (by omega) h2 br ops2 (fun l3 ops3 h3 => ih (i + 1) l3 ops3 (by omega) h3) x60 _ rfl hx
    by_cases hn : pickN l2 (inN l2 (-1) 0 l2.length) < 0
    · exact Ev.ite_pos hn (J true (by simp [hn]))
    · refine Ev.ite_neg hn (J _ ?_)
      have := pickN_in l2 (inN l2 (-1) 0 l2.length) (fun n hn => (mem_inN.1 hn).1)
      rw [decide_eq_true_iff]
      dsimp only
      omega
theorem law_StatesPick (zs : List St) (a1 : Int) (hl : zs.length ≤ 9223372036854775807) (hz : ∀ s ∈ zs, SB s) (h1 : 0 ≤ a1 ∧ a1 ≤ 255) : ∃ k, clinkerlaw10_StatesPick.f k zs a1 = some true := by
  refine Ev.rounds (g := fun k => clinkerlaw10_StatesPick.f k zs a1) ?_
  unfold clinkerlaw10_StatesPick.f
  have ha := tmod_in a1 h1.1 (show (0 : Int) < 4 by omega)
  have hn : newV (wrap64 (2 + Int.tmod (wrap64 a1) 4)) 3 [] = (rowL (2 + Int.tmod a1 4).toNat (List.replicate 3 zP) [], false, false, 0, 0) := by
    rw [tmod_byte (m := 4) h1, wrap64_in (by omega) (by omega)]
    exact new_good (by omega) (by omega) (by omega) (by omega)
  have hs := sm_new (wrap64 (2 + Int.tmod (wrap64 a1) 4)) 3 []
  refine Ev.bind awake_ev (Ev.ite_pos rfl (Ev.have_ rfl ?_))
  rw [hn] at hs ⊢
  refine spick_l0 zs hl hz (2 + Int.tmod a1 4).toNat (by omega) false 12 0 _ _ rfl ⟨hs, rowL_len .., fun x hx => ?_⟩
  obtain ⟨j, _, rfl⟩ := List.mem_map.1 hx
  exact ⟨by simp, by simp⟩
end Go.Proofs.Ytnbhkogjamdfhaa.X
