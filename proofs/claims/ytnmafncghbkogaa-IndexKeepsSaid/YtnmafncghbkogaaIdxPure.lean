/- What index.Put, Find and Drop make of slots: what is told by counting. -/
import Derived.Test.YtnmafncghbkogaaIdxFind
namespace Go.Proofs.Ytnmafncghbkogaa.X
open Go.RowKit Go.Proofs.Ytnmafncghbkogaa.PAll Go.Proofs.YtnmafncghbkogaaW.PrintWords Go.Proofs.YtnmafncghbkogaaW.PrintLast Go.Proofs.YtnmafncghbkogaaW.PrintMore
set_option linter.unusedVariables false
set_option linter.unusedSimpArgs false
abbrev zS : Sl := z41
/-- Ahead of a used slot, on its fingerprint's way, none is empty. -/
def Fit (l : List Sl) : Prop := ∀ i j p, 0 ≤ p → j < i → i < l.length → (slAt l (ordr l.length p i)).f0 = 1 → (slAt l (ordr l.length p i)).f1 = p → (slAt l (ordr l.length p j)).f0 ≠ 0
theorem slAt_set_ne {l : List Sl} {k j : Nat} (h : k ≠ j) (x : Sl) : slAt (l.set k x) j = slAt l j := by
  unfold slAt
  rw [List.getD_eq_getElem?_getD, List.getD_eq_getElem?_getD, List.getElem?_set_ne h]
theorem slAt_set_eq {l : List Sl} {k : Nat} (h : k < l.length) (x : Sl) : slAt (l.set k x) k = x := by
  unfold slAt
  rw [List.getD_eq_getElem?_getD, List.getElem?_set_self h]
  rfl
theorem slAt_get {l : List Sl} {k : Nat} (h : k < l.length) : slAt l k = l[k] := by
  unfold slAt
  rw [List.getD_eq_getElem?_getD, List.getElem?_eq_getElem h]
  rfl
theorem range_slAt (l : List Sl) : (List.range l.length).map (slAt l) = l := by
  apply List.ext_getElem
  · simp
  · intro k h1 h2
    simp [slAt_get h2]
theorem ordL_rot {n : Nat} (h : 0 < n) (p : Int) : ordL n p n = (List.range n).drop (p.toNat % n) ++ (List.range n).take (p.toNat % n) := by
  have hr := Nat.mod_lt p.toNat h
  obtain ⟨r, hre⟩ : ∃ r, p.toNat % n = r := ⟨_, rfl⟩
  rw [hre] at hr ⊢
  apply List.ext_getElem
  · simp [ordL]; omega
  · intro k h1 h2
    have hk : k < n := by simpa [ordL] using h1
    simp only [ordL, List.getElem_map, List.getElem_range, ordr, hre]
    rw [List.getElem_append]
    split
    · rename_i h3
      simp only [List.length_drop, List.length_range] at h3
      simp only [List.getElem_drop, List.getElem_range]
      exact Nat.mod_eq_of_lt (by omega)
    · rename_i h3
      simp only [List.length_drop, List.length_range] at h3
      simp only [List.getElem_take, List.getElem_range, List.length_drop, List.length_range]
      rw [show r + k = (k - (n - r)) + n by omega, Nat.add_mod_right]
      exact Nat.mod_eq_of_lt (by omega)
theorem ordL_perm (n : Nat) (p : Int) : (ordL n p n).Perm (List.range n) := by
  rcases Nat.eq_zero_or_pos n with h | h
  · subst h; exact List.Perm.refl _
  · rw [ordL_rot h]
    have := List.perm_append_comm (l₁ := (List.range n).drop (p.toNat % n)) (l₂ := (List.range n).take (p.toNat % n))
    rw [List.take_append_drop] at this
    exact this
/-- Whatever is counted on the way all around is counted in the slots. -/
theorem ord_count (l : List Sl) (p : Int) (g : Sl → Bool) : (ordL l.length p l.length).countP (fun k => g (slAt l k)) = l.countP g := by
  rw [(ordL_perm l.length p).countP_eq]
  have := range_slAt l
  conv => rhs; rw [← this]
  rw [List.countP_map]
  rfl
theorem mem_ord {n : Nat} {p : Int} {k : Nat} : k ∈ ordL n p n ↔ k < n := by
  rw [(ordL_perm n p).mem_iff, List.mem_range]
theorem ordL_get {n : Nat} {p : Int} {i m : Nat} (h : i < (ordL n p m).length) : (ordL n p m)[i] = ordr n p i := by
  simp [ordL]
/-- What stands behind the first that fails. -/
theorem dropWhile_get {α : Type} {q : α → Bool} : ∀ {a : List α} {i : Nat} (h : i < (a.dropWhile q).length), ∃ j, ∃ hj : j < a.length, q a[j] = false ∧ ∃ hi : j + i < a.length, (a.dropWhile q)[i] = a[j + i]
  | [], i, h => by simp at h
  | x :: a, i, h => by
    cases hx : q x with
    | true =>
      rw [List.dropWhile_cons_of_pos hx] at h
      obtain ⟨j, hj, h1, hi, h2⟩ := dropWhile_get h
      refine ⟨j + 1, by simp; omega, by simpa using h1, by simp; omega, ?_⟩
      simp only [List.dropWhile_cons_of_pos hx]
      rw [h2]
      simp [show j + 1 + i = j + i + 1 by omega]
    | false =>
      have hd : (x :: a).dropWhile q = x :: a := List.dropWhile_cons_of_neg (by simp [hx])
      refine ⟨0, by simp, by simpa using hx, by rw [hd] at h; simpa using h, ?_⟩
      simp [hd]
theorem used_filter {l : List Sl} {p : Int} (hf : Fit l) (hp : 0 ≤ p) : usedN l p = (ordL l.length p l.length).filter (fun k => matchS p (slAt l k)) := by
  unfold usedN roundN
  rw [if_neg (by omega)]
  conv => rhs; rw [← List.takeWhile_append_dropWhile (p := nonE l) (l := ordL l.length p l.length)]
  rw [List.filter_append]
  have : ((ordL l.length p l.length).dropWhile (nonE l)).filter (fun k => matchS p (slAt l k)) = [] := by
    rw [List.filter_eq_nil_iff]
    intro k hk hm
    obtain ⟨i, hi, rfl⟩ := List.mem_iff_getElem.1 hk
    obtain ⟨j, hj, h1, hji, h2⟩ := dropWhile_get hi
    rw [h2] at hm
    rw [ordL_get] at h1 hm
    have hlen : j + i < l.length := by rw [ordL_length] at hji; exact hji
    unfold matchS at hm
    rw [Bool.and_eq_true, beq_iff_eq, beq_iff_eq] at hm
    unfold nonE at h1
    have h1' : (slAt l (ordr l.length p j)).f0 = 0 := by simpa using h1
    rcases Nat.eq_zero_or_pos i with h0 | h0
    · subst h0; rw [Nat.add_zero, h1'] at hm; exact absurd hm.1 (by decide)
    · exact hf (j + i) j p hp (by omega) hlen hm.1 hm.2 h1'
  rw [this, List.append_nil]
/-- What is found is what the slots have. -/
theorem find_count {l : List Sl} {p : Int} (hf : Fit l) (hp : 0 ≤ p) (r : Int → Bool) : (findV l p).countP r = l.countP (fun s => matchS p s && r s.f2) := by
  unfold findV
  rw [List.countP_map, used_filter hf hp, List.countP_filter, ← ord_count l p]
  congr 1
  funext k
  simp [Bool.and_comm]
theorem find_len {l : List Sl} {p : Int} (hf : Fit l) (hp : 0 ≤ p) : (findV l p).length = l.countP (matchS p) := by
  have := find_count hf hp (fun _ => true)
  rw [List.countP_true] at this
  rw [this]
  simp
theorem fit_zeros (n : Nat) : Fit (List.replicate n zS) := by
  intro i j p hp hj hi h1
  exfalso
  rw [slAt_get (by rw [List.length_replicate] at hi ⊢; exact ordr_lt (by omega) p i), List.getElem_replicate] at h1
  exact absurd h1 (by decide)
/-- A slot that isn't used is taken. -/
theorem fit_put {l : List Sl} {p q : Int} {i : Nat} (hf : Fit l) (hp : 0 ≤ p) (hi : i < l.length) (hu : ∀ j, j < i → (slAt l (ordr l.length p j)).f0 = 1) : Fit (l.set (ordr l.length p i) ⟨1, p, q⟩) := by
  intro a b p' hp' hb ha h1 h2
  rw [List.length_set] at *
  have hk := ordr_lt (n := l.length) (by omega) p i
  by_cases e2 : ordr l.length p i = ordr l.length p' b
  · rw [← e2, slAt_set_eq hk]; show (1 : Int) ≠ 0; decide
  · rw [slAt_set_ne e2]
    by_cases e1 : ordr l.length p i = ordr l.length p' a
    · rw [← e1, slAt_set_eq hk] at h2
      subst h2
      have hai : a = i := by
        have h3 : (ordL l.length p l.length)[i]'(by rw [ordL_length]; omega) = (ordL l.length p l.length)[a]'(by rw [ordL_length]; omega) := by rw [ordL_get, ordL_get]; exact e1
        have hnd : (ordL l.length p l.length).Nodup := (ordL_perm _ _).nodup_iff.2 List.nodup_range
        exact ((List.getElem_inj hnd).1 h3).symm
      subst hai
      rw [hu b hb]; decide
    · rw [slAt_set_ne e1] at h1 h2
      exact hf a b p' hp' hb ha h1 h2
theorem fit_drop {l : List Sl} {k : Nat} (hf : Fit l) (hk : k < l.length) : Fit (l.set k ⟨2, 0, 0⟩) := by
  intro a b p' hp' hb ha h1 h2
  rw [List.length_set] at *
  by_cases e1 : k = ordr l.length p' a
  · rw [← e1, slAt_set_eq hk] at h1; exact absurd h1 (by decide)
  · rw [slAt_set_ne e1] at h1 h2
    by_cases e2 : k = ordr l.length p' b
    · rw [← e2, slAt_set_eq hk]; decide
    · rw [slAt_set_ne e2]; exact hf a b p' hp' hb ha h1 h2
def isUsed (s : Sl) : Bool := s.f0 == 1
theorem set_count (l : List Sl) (k : Nat) (hk : k < l.length) (x : Sl) (g : Sl → Bool) : (l.set k x).countP g + (if g (slAt l k) = true then 1 else 0) = l.countP g + (if g x = true then 1 else 0) := by
  rw [slAt_get hk, List.countP_set hk]
  have := List.countP_pos_iff (p := g) (l := l)
  by_cases h : g l[k] = true
  · have h2 := this.2 ⟨l[k], List.getElem_mem hk, h⟩
    rw [if_pos h]
    omega
  · rw [if_neg h]
    omega
theorem find_first {l : List Sl} {p : Int} {k : Nat} {q : Nat → Bool} (h : (ordL l.length p l.length).find? q = some k) : ∃ i, i < l.length ∧ k = ordr l.length p i ∧ q k = true ∧ ∀ j, j < i → q (ordr l.length p j) = false := by
  rw [List.find?_eq_some_iff_append] at h
  obtain ⟨hk, ys, zs, he, hn⟩ := h
  have hlen : ys.length < l.length := by have := congrArg List.length he; rw [ordL_length] at this; simp at this; omega
  refine ⟨ys.length, hlen, ?_, hk, fun j hj => ?_⟩
  · have h2 : (ordL l.length p l.length)[ys.length]'(by rw [ordL_length]; exact hlen) = k := by simp [he]
    rw [ordL_get] at h2
    exact h2.symm
  · have h2 : (ordL l.length p l.length)[j]'(by rw [ordL_length]; omega) ∈ ys := by
      simp only [he]
      rw [List.getElem_append_left hj]
      exact List.getElem_mem hj
    rw [ordL_get] at h2
    simpa using hn _ h2
/-- What Put does: with a slot that isn't used. -/
theorem put_spec {l : List Sl} {p q : Int} (hf : Fit l) (hp : 0 ≤ p) (h : l.countP isUsed < l.length) : ∃ k, k < l.length ∧ isUsed (slAt l k) = false ∧ putV l p q = (l.set k ⟨1, p, q⟩, 0) ∧ Fit (l.set k ⟨1, p, q⟩) := by
  cases hfd : (roundN l p).find? (free1 l) with
  | none =>
    exfalso
    unfold roundN at hfd
    rw [if_neg (by omega), List.find?_eq_none] at hfd
    have : l.countP isUsed = l.length := by
      rw [List.countP_eq_length]
      intro s hs
      obtain ⟨k, hk, rfl⟩ := List.mem_iff_getElem.1 hs
      have h2 := hfd k (mem_ord.2 hk)
      unfold free1 at h2
      rw [slAt_get hk] at h2
      simpa [isUsed] using h2
    omega
  | some k =>
    have hfd2 := hfd
    unfold roundN at hfd2
    rw [if_neg (by omega)] at hfd2
    obtain ⟨i, hi, rfl, hk, hj⟩ := find_first hfd2
    refine ⟨_, ordr_lt (by omega) p i, ?_, by unfold putV; rw [if_neg (by omega), hfd], fit_put hf hp hi (fun j h => ?_)⟩
    · unfold free1 at hk; unfold isUsed; simpa using hk
    · have := hj j h; unfold free1 at this; simpa using this
theorem put_full {l : List Sl} {p q : Int} (hp : 0 ≤ p) (h : l.countP isUsed = l.length) : putV l p q = ([], 40) := by
  have hfd : (roundN l p).find? (free1 l) = none := by
    unfold roundN
    rw [if_neg (by omega), List.find?_eq_none]
    intro k hk
    have hk := mem_ord.1 hk
    rw [List.countP_eq_length] at h
    have := h _ (List.getElem_mem hk)
    unfold free1
    rw [slAt_get hk]
    simpa [isUsed] using this
  unfold putV
  rw [if_neg (by omega), hfd]
/-- What Drop does. -/
theorem drop_spec {l : List Sl} {p q : Int} (hf : Fit l) (hp : 0 ≤ p) : (dropV l p q = l ∧ l.countP (fun s => matchS p s && s.f2 == q) = 0) ∨
    ∃ k, k < l.length ∧ matchS p (slAt l k) = true ∧ (slAt l k).f2 = q ∧ dropV l p q = l.set k ⟨2, 0, 0⟩ ∧ Fit (l.set k ⟨2, 0, 0⟩) := by
  cases hfd : (usedN l p).find? (isPlace l q) with
  | none =>
    refine .inl ⟨by unfold dropV; rw [hfd], ?_⟩
    rw [← find_count hf hp (fun x => x == q), List.countP_eq_zero]
    rw [List.find?_eq_none] at hfd
    intro x hx
    unfold findV at hx
    obtain ⟨k, hk, rfl⟩ := List.mem_map.1 hx
    exact hfd k hk
  | some k =>
    have h1 := List.find?_some hfd
    have h2 := List.mem_of_find?_eq_some hfd
    rw [used_filter hf hp, List.mem_filter] at h2
    have hk := mem_ord.1 h2.1
    exact .inr ⟨k, hk, h2.2, by unfold isPlace at h1; simpa using h1, by unfold dropV; rw [hfd], fit_drop hf hk⟩
end Go.Proofs.Ytnmafncghbkogaa.X
