/- IndexDrop over numbers and lists: what is dropped is found once less, all else as often as it was. -/
import Derived.Test.YtnmafncghbkogaaIdxStep
import Derived.Test.YtnmafncghbkogaaPAllx7
import Derived.Test.YtnmafncghbkogaaPAllx8
namespace Go.Proofs.Ytnmafncghbkogaa.X
open Go.RowKit Go.Proofs.Ytnmafncghbkogaa.PAll Go.Proofs.YtnmafncghbkogaaW.PrintWords Go.Proofs.YtnmafncghbkogaaW.PrintLast Go.Proofs.YtnmafncghbkogaaW.PrintMore
set_option linter.unusedVariables false
set_option linter.unusedSimpArgs false
theorem rdS_at (l : List Sl) (k : Nat) : rd_T41 l (k : Int) = slAt l k := by unfold rd_T41 slAt; rw [Int.toNat_natCast]
theorem at_f {l : List Sl} {p : Int} {i : Nat} (hp : 0 ≤ p) (hi : i < l.length) (hl : l.length ≤ 100000) : clinkerref09_at.f l p (i : Int) = some ((ordr l.length p i : Nat) : Int) := by
  unfold clinkerref09_at.f
  have hm := Nat.mod_lt p.toNat (show 0 < l.length by omega)
  rw [if_neg (by omega), rem_nat p hp, wrap64_in (by omega) (by omega)]
  congr 1
theorem find_at {n : Nat} {p : Int} {i : Nat} {q : Nat → Bool} (hi : i < n) (hb : ∀ j, j < i → q (ordr n p j) = false) (hq : q (ordr n p i) = true) : (ordL n p n).find? q = some (ordr n p i) := by
  obtain ⟨t, ht⟩ := ordL_prefix (n := n) (p := p) (k := i + 1) (by omega)
  rw [← ht, ordL_succ, List.append_assoc]
  exact find_app (fun y hy => by
    unfold ordL at hy
    obtain ⟨j, hj, rfl⟩ := List.mem_map.1 hy
    exact hb j (List.mem_range.1 hj)) hq
theorem wnat {i : Nat} (h : i ≤ 1000000) : wrap64 ((i : Int) + 1) = ((i + 1 : Nat) : Int) := by rw [wrap64_in (by omega) (by omega)]; simp
theorem rput_l0 {l : List Sl} {p q : Int} (hp : 0 ≤ p) (hl : l.length ≤ 100000) : ∀ (d i : Nat), l.length - i = d → i ≤ l.length → (∀ j, j < i → (slAt l (ordr l.length p j)).f0 = 1) → Ev (fun k => clinkerref09_Put.l0 k l p q (i : Int)) (putV l p q) := by
  intro d
  induction d with
  | zero =>
    intro i hd hi hu
    refine Ev.step (fun k => clinkerref09_Put.l0.eq_2 ..) (Ev.ite_neg (by omega) ?_)
    have hfd : (roundN l p).find? (free1 l) = none := by
      unfold roundN
      rw [if_neg (by omega), List.find?_eq_none]
      intro k hk
      unfold ordL at hk
      obtain ⟨j, hj, rfl⟩ := List.mem_map.1 hk
      unfold free1
      rw [hu j (by have := List.mem_range.1 hj; omega)]
      simp
    have : putV l p q = ([], 40) := by unfold putV; rw [if_neg (by omega), hfd]
    rw [this]
    exact Ev.now _
  | succ d ih =>
    intro i hd hi hu
    have hil : i < l.length := by omega
    have ho := ordr_lt (n := l.length) (by omega) p i
    refine Ev.step (fun k => clinkerref09_Put.l0.eq_2 ..) (Ev.ite_pos (by omega) (Ev.have_ (at_f hp hil hl) (Ev.ite_pos (by omega) (Ev.ite_pos (by omega) ?_))))
    rw [rdS_at]
    by_cases hf : (slAt l (ordr l.length p i)).f0 = 1
    · refine Ev.ite_pos hf ?_
      rw [wnat (by omega)]
      exact ih (i + 1) (by omega) (by omega) (fun j hj => by
        by_cases h : j = i
        · rw [h]; exact hf
        · exact hu j (by omega))
    · have hfd : (roundN l p).find? (free1 l) = some (ordr l.length p i) := by
        unfold roundN
        rw [if_neg (by omega)]
        exact find_at hil (fun j hj => by unfold free1; rw [hu j hj]; rfl) (by unfold free1; simpa using hf)
      have : putV l p q = (l.set (ordr l.length p i) ⟨1, p, q⟩, 0) := by unfold putV; rw [if_neg (by omega), hfd]
      rw [this]
      refine Ev.ite_neg hf (Ev.ite_pos (by simp; omega) (Ev.pure_ (Ev.ite_pos (by rw [List.nil_append]; omega) ?_)))
      rw [List.nil_append, Int.toNat_natCast]
      exact Ev.now _
theorem rput_ev {l : List Sl} {p : Int} (q : Int) (hp : 0 ≤ p) (hl : l.length ≤ 100000) : Ev (fun k => clinkerref09_Put.f k l p q) (putV l p q) :=
  Ev.ite_neg (by omega) (rput_l0 hp hl l.length 0 (by omega) (Nat.zero_le _) (fun j hj => absurd hj (Nat.not_lt_zero _)))
def asInts (ks : List Nat) : List Int := ks.map (fun k : Nat => (k : Int))
def ufN (l : List Sl) (p : Int) (i : Nat) : List Nat := (ordL l.length p i).filter (fun k => matchS p (slAt l k))
theorem ufN_len (l : List Sl) (p : Int) (i : Nat) : (ufN l p i).length ≤ i := by
  unfold ufN
  have := List.length_filter_le (fun k => matchS p (slAt l k)) (ordL l.length p i)
  rw [ordL_length] at this
  exact this
theorem ufN_succ (l : List Sl) (p : Int) (i : Nat) : ufN l p (i + 1) = if matchS p (slAt l (ordr l.length p i)) = true then ufN l p i ++ [ordr l.length p i] else ufN l p i := by
  unfold ufN
  rw [ordL_succ, List.filter_append]
  split
  · rename_i h; simp [h]
  · rename_i h; simp [h]
theorem used_at {l : List Sl} {p : Int} {i : Nat} (hp : 0 ≤ p) (hi : i ≤ l.length) (hn : ∀ j, j < i → nonE l (ordr l.length p j) = true) (he : i = l.length ∨ nonE l (ordr l.length p i) = false) : usedN l p = ufN l p i := by
  unfold usedN roundN ufN
  rw [if_neg (by omega)]
  have hall : ∀ x ∈ ordL l.length p i, nonE l x = true := fun x hx => by
    unfold ordL at hx
    obtain ⟨j, hj, rfl⟩ := List.mem_map.1 hx
    exact hn j (List.mem_range.1 hj)
  rcases he with rfl | he
  · have h2 := takeWhile_app (q := nonE l) (a := ordL l.length p l.length) (b := []) hall
    rw [List.append_nil, List.takeWhile_nil, List.append_nil] at h2
    rw [h2]
  · by_cases hil : i = l.length
    · subst hil
      have h2 := takeWhile_app (q := nonE l) (a := ordL l.length p l.length) (b := []) hall
      rw [List.append_nil, List.takeWhile_nil, List.append_nil] at h2
      rw [h2]
    · obtain ⟨t, ht⟩ := ordL_prefix (n := l.length) (p := p) (k := i + 1) (by omega)
      rw [← ht, ordL_succ, List.append_assoc, takeWhile_app hall]
      simp [he]
theorem slots_l0 {l : List Sl} {p : Int} (hp : 0 ≤ p) (hl : l.length ≤ 100000) : ∀ (d i : Nat), l.length - i = d → i ≤ l.length → (∀ j, j < i → nonE l (ordr l.length p j) = true) → Ev (fun k => clinkerref09_slots.l0 k l p (asInts (ufN l p i)) (i : Int)) (asInts (usedN l p)) := by
  intro d
  induction d with
  | zero =>
    intro i hd hi hu
    rw [used_at hp hi hu (.inl (by omega))]
    refine Ev.step (fun k => clinkerref09_slots.l0.eq_2 ..) (Ev.ite_neg (by omega) (Ev.step (fun k => clinkerref09_slots.j1.eq_2 ..) (Ev.ite_neg (by simp) (Ev.now _))))
  | succ d ih =>
    intro i hd hi hu
    have hil : i < l.length := by omega
    have ho := ordr_lt (n := l.length) (by omega) p i
    refine Ev.step (fun k => clinkerref09_slots.l0.eq_2 ..) (Ev.ite_pos (by omega) (Ev.step (fun k => clinkerref09_slots.j1.eq_2 ..) (Ev.ite_pos (by simpa using hp) ?_)))
    refine Ev.have_ (at_f hp hil hl) (Ev.ite_pos (by omega) (Ev.ite_pos (by omega) ?_))
    rw [rdS_at]
    have hul := ufN_len l p i
    have hsu := ufN_succ l p i
    by_cases hf : (slAt l (ordr l.length p i)).f0 = 0
    · rw [used_at hp hi hu (.inr (by unfold nonE; simpa using hf))]
      exact Ev.ite_pos hf (Ev.now _)
    · refine Ev.ite_neg hf ?_
      have hnext : ∀ j, j < i + 1 → nonE l (ordr l.length p j) = true := fun j hj => by
        by_cases h : j = i
        · rw [h]; unfold nonE; simpa using hf
        · exact hu j (by omega)
      have hrec := ih (i + 1) (by omega) (by omega) hnext
      rw [wnat (by omega)]
      by_cases h1 : (slAt l (ordr l.length p i)).f0 = 1
      · by_cases h2 : (slAt l (ordr l.length p i)).f1 = p
        · rw [hsu, if_pos (by unfold matchS; simp [h1, h2])] at hrec
          refine Ev.ite_pos h1 (Ev.ite_pos h2 (Ev.ite_pos (by unfold asInts; rw [List.length_map]; omega) ?_))
          unfold asInts at hrec ⊢
          rw [List.map_append] at hrec
          exact hrec
        · rw [hsu, if_neg (by unfold matchS; simp [h2])] at hrec
          exact Ev.ite_pos h1 (Ev.ite_neg h2 hrec)
      · rw [hsu, if_neg (by unfold matchS; simp [h1])] at hrec
        exact Ev.ite_neg h1 hrec
theorem slots_ev {l : List Sl} {p : Int} (hp : 0 ≤ p) (hl : l.length ≤ 100000) : Ev (fun k => clinkerref09_slots.f k l p) (asInts (usedN l p)) :=
  slots_l0 hp hl l.length 0 (by omega) (Nat.zero_le _) (fun j hj => absurd hj (Nat.not_lt_zero _))
theorem used_lt {l : List Sl} {p : Int} {k : Nat} (h : k ∈ usedN l p) : k < l.length := by
  unfold usedN at h
  have h2 := (List.takeWhile_prefix (nonE l)).subset (List.mem_filter.1 h).1
  unfold roundN at h2
  split at h2
  · cases h2
  · exact mem_ord.1 h2
theorem rdrop_l0 {l : List Sl} {q : Int} (hl : l.length ≤ 100000) (ks : List Nat) (hks : ∀ k ∈ ks, k < l.length) (hkl : ks.length ≤ 100000) : ∀ (d i : Nat), ks.length - i = d → i ≤ ks.length → (∀ k ∈ ks.take i, isPlace l q k = false) →
    Ev (fun k => clinkerref09_Drop.l0 k l q l (asInts ks) (i : Int)) (match ks.find? (isPlace l q) with | none => l | some k => l.set k ⟨2, 0, 0⟩) := by
  intro d
  induction d with
  | zero =>
    intro i hd hi hu
    refine Ev.step (fun k => clinkerref09_Drop.l0.eq_2 ..) (Ev.ite_neg (by unfold asInts; rw [List.length_map]; omega) ?_)
    have : ks.find? (isPlace l q) = none := by
      rw [List.find?_eq_none]
      intro k hk
      rw [List.take_of_length_le (by omega)] at hu
      rw [hu k hk]; simp
    rw [this]
    exact Ev.now _
  | succ d ih =>
    intro i hd hi hu
    have hil : i < ks.length := by omega
    have hrd : rd (asInts ks) (i : Int) = ((ks[i] : Nat) : Int) := by
      unfold rd asInts
      rw [Int.toNat_natCast, List.getD_eq_getElem?_getD, List.getElem?_eq_getElem (by rw [List.length_map]; exact hil), List.getElem_map]
      rfl
    have hk := hks _ (List.getElem_mem hil)
    refine Ev.step (fun k => clinkerref09_Drop.l0.eq_2 ..) (Ev.ite_pos (by unfold asInts; rw [List.length_map]; omega) (Ev.ite_pos (by omega) ?_))
    rw [hrd]
    refine Ev.ite_pos (by omega) (Ev.ite_pos (by omega) ?_)
    rw [rdS_at]
    by_cases h : (slAt l ks[i]).f2 = q
    · have : ks.find? (isPlace l q) = some ks[i] := by
        have h2 := List.take_append_drop i ks
        rw [List.drop_eq_getElem_cons hil] at h2
        conv => lhs; rw [← h2]
        exact find_app hu (by unfold isPlace; simpa using h)
      rw [this]
      refine Ev.ite_pos h (Ev.ite_pos (by omega) ?_)
      rw [Int.toNat_natCast]
      exact Ev.now _
    · refine Ev.ite_neg h ?_
      rw [wnat (by omega)]
      refine ih (i + 1) (by omega) (by omega) (fun k hk => ?_)
      rw [List.take_succ_eq_append_getElem hil] at hk
      rcases List.mem_append.1 hk with hk | hk
      · exact hu k hk
      · rw [List.mem_singleton] at hk; rw [hk]; unfold isPlace; simpa using h
theorem rdrop_ev {l : List Sl} {p : Int} (q : Int) (hp : 0 ≤ p) (hl : l.length ≤ 100000) : Ev (fun k => clinkerref09_Drop.f k l p q) (dropV l p q) := by
  have hul : (usedN l p).length ≤ 100000 := by
    unfold usedN
    have h1 := List.length_filter_le (fun k => matchS p (slAt l k)) ((roundN l p).takeWhile (nonE l))
    have h2 := (List.takeWhile_prefix (l := roundN l p) (nonE l)).length_le
    have h3 : (roundN l p).length ≤ l.length := by unfold roundN; split <;> simp [ordL_length]
    omega
  refine Ev.ite_pos (by simp; omega) (Ev.bind (slots_ev hp hl) ?_)
  simp only [List.nil_append]
  exact rdrop_l0 hl _ (fun k hk => used_lt hk) hul _ 0 rfl (Nat.zero_le _) (by simp)
/-- The slots at any time. -/
structure Ok (n : Nat) (l : List Sl) : Prop where
  len : l.length = n
  fit : Fit l
theorem Ok.put {n : Nat} {l : List Sl} {p : Int} (q : Int) (h : Ok n l) (hp : 0 ≤ p) : (putV l p q).2 = 0 → Ok n (putV l p q).1 := by
  by_cases hc : l.countP isUsed = l.length
  · rw [put_full hp hc]; intro h2; cases h2
  · have := List.countP_le_length (p := isUsed) (l := l)
    obtain ⟨k, hk, hu, he, hf⟩ := put_spec (q := q) h.fit hp (by omega)
    rw [he]
    exact fun _ => ⟨by rw [List.length_set]; exact h.len, hf⟩
theorem Ok.drop {n : Nat} {l : List Sl} {p : Int} (q : Int) (h : Ok n l) (hp : 0 ≤ p) : Ok n (dropV l p q) := by
  rcases drop_spec (q := q) h.fit hp with ⟨he, _⟩ | ⟨k, hk, _, _, he, hf⟩
  · rw [he]; exact h
  · rw [he]; exact ⟨by rw [List.length_set]; exact h.len, hf⟩
/-- How often a drop is told of. -/
def hadN (l : List Sl) (p q : Int) : Nat := if 0 < l.countP (fun s => matchS p s && s.f2 == q) then 1 else 0
theorem drop_len {l : List Sl} {p q : Int} (hf : Fit l) (hp : 0 ≤ p) (p' : Int) (hp' : 0 ≤ p') : (findV (dropV l p q) p').length + (if p' = p then hadN l p q else 0) = (findV l p').length := by
  rw [find_len hf hp']
  rcases drop_spec (q := q) hf hp with ⟨he, hc⟩ | ⟨k, hk, hm, h2, he, hf2⟩
  · rw [he, find_len hf hp']
    unfold hadN
    rw [hc]
    simp
  · rw [he, find_len hf2 hp']
    have hs := set_count l k hk ⟨2, 0, 0⟩ (matchS p')
    rw [if_neg (show ¬ matchS p' (⟨2, 0, 0⟩ : Sl) = true by unfold matchS; simp)] at hs
    have h1 : hadN l p q = 1 := by
      unfold hadN
      rw [if_pos]
      rw [List.countP_pos_iff]
      exact ⟨_, List.getElem_mem hk, by rw [← slAt_get hk, hm, h2]; simp⟩
    have hm2 := hm
    unfold matchS at hm2
    rw [Bool.and_eq_true, beq_iff_eq, beq_iff_eq] at hm2
    rw [h1]
    by_cases e : p' = p
    · rw [if_pos e]
      rw [e] at hs ⊢
      rw [if_pos hm] at hs
      omega
    · rw [if_neg e]
      rw [if_neg (by unfold matchS; rw [Bool.and_eq_true, beq_iff_eq, beq_iff_eq]; exact fun h => e (h.2.symm.trans hm2.2))] at hs
      omega
theorem drop_put {n : Nat} {l : List Sl} {p q : Int} (h : Ok n l) (hp : 0 ≤ p) (hh : hadN l p q = 1) : (putV (dropV l p q) p q).2 = 0 := by
  rcases drop_spec (q := q) h.fit hp with ⟨he, hc⟩ | ⟨k, hk, hm, h2, he, hf2⟩
  · unfold hadN at hh; rw [hc] at hh; simp at hh
  · rw [he]
    have hs := set_count l k hk ⟨2, 0, 0⟩ isUsed
    rw [if_neg (show ¬ isUsed (⟨2, 0, 0⟩ : Sl) = true by unfold isUsed; simp), if_pos (match_used hm)] at hs
    have := List.countP_le_length (p := isUsed) (l := l)
    obtain ⟨k', _, _, he', _⟩ := put_spec (q := q) hf2 hp (by rw [List.length_set]; omega)
    rw [he']
section
variable {n : Nat}
theorem drop_l2 (hn : n ≤ 9) {l : List Sl} (h : Ok n l) {p q : Int} (hp : 0 ≤ p ∧ p ≤ 11) (x17 : Bool) (hx : x17 = true ↔ hadN l p q = 1) : ∀ (d i : Nat), 12 - i = d → i ≤ 12 →
    Ev (fun k => clinkerlaw09_IndexDrop.l2 k true l p q (dropV l p q) x17 (hadN l p q : Int) (i : Int)) true := by
  have ht := h.drop q hp.1
  have hlt : (dropV l p q).length ≤ 100000 := by rw [ht.len]; omega
  have hll : l.length ≤ 100000 := by rw [h.len]; omega
  intro d
  induction d with
  | zero =>
    intro i hd hi
    refine Ev.step (fun k => clinkerlaw09_IndexDrop.l2.eq_2 ..) (Ev.ite_neg (by omega) (Ev.have_ (put_f hlt p q) (Ev.ite_pos rfl (Ev.ite_pos (by rw [ht.len, h.len]) ?_))))
    by_cases hh : x17 = true
    · refine Ev.ite_pos hh ?_
      rw [drop_put h hp.1 (hx.1 hh)]
      exact Ev.now true
    · exact Ev.ite_neg hh (Ev.now true)
  | succ d ih =>
    intro i hd hi
    have key := drop_len (q := q) h.fit hp.1 (i : Int) (by omega)
    have hc := List.countP_le_length (p := matchS (i : Int)) (l := l)
    rw [← find_len h.fit (by omega), h.len] at hc
    refine Ev.step (fun k => clinkerlaw09_IndexDrop.l2.eq_2 ..) (Ev.ite_pos (by omega) (Ev.have_ (find_f hll _) ?_))
    rw [wnat (by omega)]
    by_cases e : (i : Int) = p
    · rw [if_pos e] at key
      refine Ev.ite_pos e (Ev.have_ (find_f hlt _) (Ev.ite_pos ?_ (ih (i + 1) (by omega) (by omega))))
      have h1 : hadN l p q ≤ 1 := by unfold hadN; split <;> omega
      rw [wrap64_in (by omega) (by omega)]
      omega
    · rw [if_neg e] at key
      exact Ev.ite_neg e (Ev.have_ (find_f hlt _) (Ev.ite_pos (by omega) (ih (i + 1) (by omega) (by omega))))
theorem drop_l1 (hn : n ≤ 9) {l : List Sl} (h : Ok n l) {p q : Int} (hp : 0 ≤ p ∧ p ≤ 11) (ys : List Int) (hys : ys.length ≤ 9) (hy : 0 < ys.countP (fun x => x == q) ↔ hadN l p q = 1) : ∀ (d i : Nat) (x : Bool), ys.length - i = d → i ≤ ys.length → (x = true ↔ 0 < (ys.take i).countP (fun x => x == q)) →
    Ev (fun k => clinkerlaw09_IndexDrop.l1 k true l p q (dropV l p q) x ys (i : Int)) true := by
  have hone : hadN l p q = 1 ∨ hadN l p q = 0 := by unfold hadN; split <;> simp
  intro d
  induction d with
  | zero =>
    intro i x hd hi hx
    rw [List.take_of_length_le (by omega), hy] at hx
    refine Ev.step (fun k => clinkerlaw09_IndexDrop.l1.eq_2 ..) (Ev.ite_neg (by omega) ?_)
    have hl2 := drop_l2 hn h hp x hx 12 0 rfl (Nat.zero_le _)
    by_cases hxt : x = true
    · refine Ev.ite_pos hxt (Ev.step (fun k => clinkerlaw09_IndexDrop.j3.eq_2 ..) ?_)
      rw [hx.1 hxt] at hl2
      exact hl2
    · refine Ev.ite_neg hxt (Ev.step (fun k => clinkerlaw09_IndexDrop.j3.eq_2 ..) ?_)
      have h0 : hadN l p q = 0 := by
        rcases hone with h1 | h1
        · exact absurd (hx.2 h1) hxt
        · exact h1
      rw [h0] at hl2
      exact hl2
  | succ d ih =>
    intro i x hd hi hx
    have hil : i < ys.length := by omega
    refine Ev.step (fun k => clinkerlaw09_IndexDrop.l1.eq_2 ..) (Ev.ite_pos (by omega) ?_)
    rw [wnat (by omega)]
    have htk : (ys.take (i + 1)).countP (fun x => x == q) = (ys.take i).countP (fun x => x == q) + (if (ys[i] == q) = true then 1 else 0) := by
      rw [List.take_succ_eq_append_getElem hil, List.countP_append, List.countP_singleton]
    by_cases hxt : x = true
    · refine Ev.ite_pos hxt (ih (i + 1) true (by omega) (by omega) ⟨fun _ => by have := hx.1 hxt; omega, fun _ => rfl⟩)
    · refine Ev.ite_neg hxt (Ev.ite_pos (by omega) (ih (i + 1) _ (by omega) (by omega) ?_))
      have hrd : rd ys (i : Int) = ys[i] := by
        unfold rd
        rw [Int.toNat_natCast, List.getD_eq_getElem?_getD, List.getElem?_eq_getElem hil]
        rfl
      have h0 : ¬ 0 < (ys.take i).countP (fun x => x == q) := fun h => hxt (hx.2 h)
      rw [hrd, htk]
      constructor
      · intro h; rw [if_pos h]; omega
      · intro h
        by_cases h2 : (ys[i] == q) = true
        · exact h2
        · rw [if_neg h2] at h; omega
theorem drop_end (hn : n ≤ 9) {l : List Sl} (h : Ok n l) (zs : List St) (a2 a3 : Int) (h2 : 0 ≤ a2 ∧ a2 ≤ 255) (h3 : 0 ≤ a3 ∧ a3 ≤ 255) (x11 : Int) (b : Bool) (hb : b = false) : Ev (fun k => clinkerlaw09_IndexDrop.j1 k zs a2 a3 true l x11 b) true := by
  subst hb
  have hll : l.length ≤ 100000 := by rw [h.len]; omega
  refine Ev.step (fun k => clinkerlaw09_IndexDrop.j1.eq_2 ..) (Ev.ite_neg (by simp) ?_)
  obtain ⟨p, hpe⟩ : ∃ p, Int.tmod (wrap64 a2) 12 = p := ⟨_, rfl⟩
  obtain ⟨q, hqe⟩ : ∃ q, Int.tmod (wrap64 a3) 3 = q := ⟨_, rfl⟩
  rw [hpe, hqe]
  have hp : 0 ≤ p ∧ p ≤ 11 := by rw [← hpe, wrap64_in (by omega) (by omega), Int.tmod_eq_emod_of_nonneg h2.1]; omega
  refine Ev.have_ (drop_f hll p q) (Ev.have_ (find_f hll p) ?_)
  have hc := find_count h.fit hp.1 (fun x => x == q)
  have hl := find_len h.fit hp.1
  have hm := List.countP_le_length (p := matchS p) (l := l)
  rw [h.len] at hm
  exact drop_l1 hn h hp _ (by omega) (by rw [hc]; unfold hadN; constructor
                                         · intro h; rw [if_pos h]
                                         · intro h; split at h
                                           · assumption
                                           · cases h) _ 0 false rfl (Nat.zero_le _) (by simp)
theorem drop_l0 (hn : n ≤ 9) (zs : List St) (hz : ∀ s ∈ zs, SB s) (a2 a3 : Int) (h2 : 0 ≤ a2 ∧ a2 ≤ 255) (h3 : 0 ≤ a3 ∧ a3 ≤ 255) : ∀ (d i : Nat) (l : List Sl), 20 - i = d → i ≤ 20 → Ok n l → Ev (fun k => clinkerlaw09_IndexDrop.l0 k zs a2 a3 true l (i : Int)) true := by
  intro d
  induction d with
  | zero =>
    intro i l hd hi h
    refine Ev.step (fun k => clinkerlaw09_IndexDrop.l0.eq_2 ..) ?_
    by_cases hl : (i : Int) < (zs.length : Int)
    · exact Ev.ite_pos hl (drop_end hn h zs a2 a3 h2 h3 _ _ (by simp; omega))
    · exact Ev.ite_neg hl (drop_end hn h zs a2 a3 h2 h3 _ _ rfl)
  | succ d ih =>
    intro i l hd hi h
    refine Ev.step (fun k => clinkerlaw09_IndexDrop.l0.eq_2 ..) ?_
    by_cases hl : (i : Int) < (zs.length : Int)
    case neg => exact Ev.ite_neg hl (drop_end hn h zs a2 a3 h2 h3 _ _ rfl)
    refine Ev.ite_pos hl (Ev.step (fun k => clinkerlaw09_IndexDrop.j1.eq_2 ..) (Ev.ite_pos (by simp; omega) (Ev.ite_pos (by omega) (Ev.ite_pos hl ?_))))
    have hil : i < zs.length := by omega
    have hs := hz _ (List.getElem_mem hil)
    have hrd : rd_T28 zs (i : Int) = zs[i] := by
      unfold rd_T28
      rw [Int.toNat_natCast, List.getD_eq_getElem?_getD, List.getElem?_eq_getElem hil]
      rfl
    rw [hrd]
    obtain ⟨p, hpe⟩ : ∃ p, Int.tmod (wrap64 zs[i].f1) 12 = p := ⟨_, rfl⟩
    obtain ⟨q, hqe⟩ : ∃ q, Int.tmod (wrap64 zs[i].f2) 3 = q := ⟨_, rfl⟩
    rw [hpe, hqe]
    have hp : 0 ≤ p := by rw [← hpe, wrap64_in (by have := hs.1; omega) (by have := hs.1; omega), Int.tmod_eq_emod_of_nonneg hs.1.1]; omega
    have hll : l.length ≤ 100000 := by rw [h.len]; omega
    rw [wnat (by omega)]
    refine Ev.bind (rput_ev q hp hll) ?_
    by_cases hd0 : zs[i].f0 = true
    · refine Ev.ite_pos hd0 (Ev.bind (rdrop_ev q hp hll) (Ev.ite_pos rfl (ih (i + 1) _ (by omega) (by omega) (h.drop q hp))))
    · refine Ev.ite_neg hd0 ?_
      by_cases he : (putV l p q).2 = 0
      · exact Ev.ite_pos he (ih (i + 1) _ (by omega) (by omega) (h.put q hp he))
      · exact Ev.ite_neg he (ih (i + 1) _ (by omega) (by omega) h)
end
theorem law_IndexDrop (zs : List St) (a1 a2 a3 : Int) (_ : zs.length ≤ 9223372036854775807) (hz : ∀ s ∈ zs, SB s) (h1 : 0 ≤ a1 ∧ a1 ≤ 255) (h2 : 0 ≤ a2 ∧ a2 ≤ 255) (h3 : 0 ≤ a3 ∧ a3 ≤ 255) : ∃ k, clinkerlaw09_IndexDrop.f k zs a1 a2 a3 = some true := by
  refine Ev.rounds (g := fun k => clinkerlaw09_IndexDrop.f k zs a1 a2 a3) ?_
  have hw : wrap64 a1 = a1 := wrap64_in (by omega) (by omega)
  obtain ⟨n, hn⟩ : ∃ n : Nat, wrap64 (1 + Int.tmod a1 9) = (n : Int) ∧ n ≤ 9 := by
    have ht : 0 ≤ Int.tmod a1 9 ∧ Int.tmod a1 9 ≤ 8 := by rw [Int.tmod_eq_emod_of_nonneg h1.1]; omega
    exact ⟨(1 + Int.tmod a1 9).toNat, by rw [wrap64_in (by omega) (by omega)]; omega, by omega⟩
  show Ev (fun k => (clinkerlaw09_awake.f k).bind _) true
  refine Ev.bind awake_ev (Ev.ite_pos rfl ?_)
  simp only [hw, hn.1]
  refine Ev.ite_pos (by omega) (Ev.ite_pos (by simp; omega) ?_)
  rw [Int.toNat_natCast]
  exact drop_l0 hn.2 zs hz a2 a3 h2 h3 20 0 _ rfl (Nat.zero_le _) ⟨List.length_replicate, fit_zeros n⟩
end Go.Proofs.Ytnmafncghbkogaa.X
