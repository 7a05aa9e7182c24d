/- IndexKeeps, walked: what is counted beside is what the slots have. -/
import Derived.Test.YtnmafncghbkogaaIdxDropLaw
import Derived.StillTailTactics
import Derived.ChangeKeysEq
namespace Go.Proofs.Ytnmafncghbkogaa.X
open Go Go.RowKit Go.Proofs.Ytnmafncghbkogaa.PAll Go.Proofs.YtnmafncghbkogaaW.PrintWords Go.Proofs.YtnmafncghbkogaaW.PrintLast Go.Proofs.YtnmafncghbkogaaW.PrintMore
set_option linter.unusedVariables false
set_option linter.unusedSimpArgs false
abbrev tS : Nat := 41
/-- How many slots have a fingerprint and a place. -/
def cnt (l : List Sl) (p q : Nat) : Nat := l.countP (fun s => matchS (p : Int) s && s.f2 == (q : Int))
/-- The table beside the slots. -/
def HV (W : World) (hb : Nat) (l : List Sl) : Prop := ∃ cur : Array Value, W.heap[hb]? = some (.cells cur 26 (0, 0)) ∧ ∀ p q, p < 12 → q < 3 → cur[p * 3 + q]? = some (.int .i64 (cnt l p q : Nat))
/-- The slots at any time: fingerprints and places are small. -/
structure OkK (n : Nat) (l : List Sl) : Prop where
  ok : Ok n l
  small : ∀ s ∈ l, isUsed s = true → ∃ p q : Nat, p < 12 ∧ q < 3 ∧ s.f1 = p ∧ s.f2 = q
/-- What is owned apart from the table. -/
abbrev Own9 (w W : World) (hb : Nat) (v : Value) (l : List Sl) : Prop := Kd.V kS tS W w.heap.size (fun k => w.heap.size ≤ k ∧ k ≠ hb) v l
theorem HV.step {W W1 : World} {hb : Nat} {l : List Sl} (h : HV W hb l) (hk : W1.heap[hb]? = W.heap[hb]?) : HV W1 hb l := by
  obtain ⟨cur, h1, h2⟩ := h
  exact ⟨cur, hk.trans h1, h2⟩
theorem HV.lt {W : World} {hb : Nat} {l : List Sl} (h : HV W hb l) : hb < W.heap.size := by
  obtain ⟨cur, h1, h2⟩ := h
  exact blk_lt h1
theorem HV.below {W W1 : World} {hb : Nat} {l : List Sl} (h : HV W hb l) (hb' : Below W.heap.size W W1) : HV W1 hb l := h.step (hb'.block _ h.lt)
theorem HV.get {W : World} {hb : Nat} {l : List Sl} (h : HV W hb l) {p q : Nat} (hp : p < 12) (hq : q < 3) : W.cell? ⟨hb, p * 3 + q, none⟩ = some (.int .i64 (cnt l p q : Nat)) ∧ W.frozen? ⟨hb, p * 3 + q, none⟩ = false := by
  obtain ⟨cur, h1, h2⟩ := h
  exact ⟨(blk_cell h1 _).trans (h2 p q hp hq), blk_frozen h1 _⟩
theorem blk_setC {W : World} {g : Nat} {t : TypeId} {cs : Array Value} (h : W.heap[g]? = some (.cells cs t (0, 0))) (i : Nat) (u : Value) : (W.setCell ⟨g, i, none⟩ u).heap[g]? = some (.cells (cs.setIfInBounds i u) t (0, 0)) := blk_set h i u
theorem HV.put {W : World} {hb : Nat} {l l' : List Sl} (h : HV W hb l) {p q : Nat} (hp : p < 12) (hq : q < 3) (x : Int) (hx : x = (cnt l' p q : Nat)) (ho : ∀ p' q', p' < 12 → q' < 3 → ¬ (p' = p ∧ q' = q) → cnt l' p' q' = cnt l p' q') :
    HV (W.setCell ⟨hb, p * 3 + q, none⟩ (.int .i64 x)) hb l' := by
  obtain ⟨cur, h1, h2⟩ := h
  refine ⟨_, blk_setC h1 _ _, fun p' q' hp' hq' => ?_⟩
  by_cases e : p' = p ∧ q' = q
  · obtain ⟨rfl, rfl⟩ := e
    have hl := (Array.getElem?_eq_some_iff.1 (h2 _ _ hp' hq')).1
    simp [hl, hx]
  · rw [Array.getElem?_setIfInBounds_ne (by intro h3; apply e; omega), h2 p' q' hp' hq', ho p' q' hp' hq' e]
theorem HV.same {W : World} {hb : Nat} {l l' : List Sl} (h : HV W hb l) (ho : ∀ p' q', p' < 12 → q' < 3 → cnt l' p' q' = cnt l p' q') : HV W hb l' := by
  obtain ⟨cur, h1, h2⟩ := h
  exact ⟨cur, h1, fun p q hp hq => by rw [h2 p q hp hq, ho p q hp hq]⟩
/-- Put, with the table in mind. -/
theorem OkK.put {n : Nat} {l : List Sl} {p q : Nat} (h : OkK n l) (hp : p < 12) (hq : q < 3) : (l.countP isUsed < n ∧ ∃ l', putV l p q = (l', 0) ∧ OkK n l' ∧ l'.countP isUsed = l.countP isUsed + 1 ∧ cnt l' p q = cnt l p q + 1 ∧ ∀ p' q', ¬ (p' = p ∧ q' = q) → cnt l' p' q' = cnt l p' q') ∨
    (l.countP isUsed = n ∧ putV l p q = ([], 40)) := by
  have hle := List.countP_le_length (p := isUsed) (l := l)
  rw [h.ok.len] at hle
  by_cases hc : l.countP isUsed = n
  · exact .inr ⟨hc, put_full (by omega) (by rw [hc, h.ok.len])⟩
  · obtain ⟨k, hk, hu, he, hf⟩ := put_spec (p := (p : Int)) (q := (q : Int)) h.ok.fit (by omega) (by rw [h.ok.len]; omega)
    have hnm : ∀ p', ¬ matchS p' (slAt l k) = true := fun p' hm => by rw [match_used hm] at hu; cases hu
    refine .inl ⟨by omega, _, he, ⟨⟨by rw [List.length_set]; exact h.ok.len, hf⟩, fun s hs hus => ?_⟩, ?_, ?_, fun p' q' hne => ?_⟩
    · rcases List.mem_or_eq_of_mem_set hs with hs | rfl
      · exact h.small s hs hus
      · exact ⟨p, q, hp, hq, rfl, rfl⟩
    · have := set_count l k hk ⟨1, p, q⟩ isUsed
      rw [if_neg (by rw [hu]; simp), if_pos (by rfl)] at this
      exact this
    · have := set_count l k hk ⟨1, p, q⟩ (fun s => matchS (p : Int) s && s.f2 == (q : Int))
      rw [if_neg (by intro h2; rw [Bool.and_eq_true] at h2; exact hnm _ h2.1), if_pos (by simp [matchS])] at this
      exact this
    · have := set_count l k hk ⟨1, p, q⟩ (fun s => matchS (p' : Int) s && s.f2 == (q' : Int))
      rw [if_neg (by intro h2; rw [Bool.and_eq_true] at h2; exact hnm _ h2.1), if_neg (by
        intro h2
        simp [matchS] at h2
        exact hne ⟨by omega, by omega⟩)] at this
      exact this
/-- Drop likewise. -/
theorem OkK.drop {n : Nat} {l : List Sl} {p q : Nat} (h : OkK n l) (hp : p < 12) (hq : q < 3) : (0 < cnt l p q ∧ OkK n (dropV l p q) ∧ (dropV l p q).countP isUsed + 1 = l.countP isUsed ∧ cnt (dropV l p q) p q + 1 = cnt l p q ∧ ∀ p' q', ¬ (p' = p ∧ q' = q) → cnt (dropV l p q) p' q' = cnt l p' q') ∨
    (cnt l p q = 0 ∧ dropV l p q = l) := by
  rcases drop_spec (q := (q : Int)) h.ok.fit (show 0 ≤ (p : Int) by omega) with ⟨he, hc⟩ | ⟨k, hk, hm, h2, he, hf2⟩
  · exact .inr ⟨hc, he⟩
  · have hpos : 0 < cnt l p q := by
      unfold cnt
      rw [List.countP_pos_iff]
      exact ⟨_, List.getElem_mem hk, by rw [← slAt_get hk, hm, h2]; simp⟩
    have hz : ∀ p', ¬ matchS p' (⟨2, 0, 0⟩ : Sl) = true := fun p' => by unfold matchS; simp
    rw [he]
    refine .inl ⟨hpos, ⟨⟨by rw [List.length_set]; exact h.ok.len, hf2⟩, fun s hs hus => ?_⟩, ?_, ?_, fun p' q' hne => ?_⟩
    · rcases List.mem_or_eq_of_mem_set hs with hs | rfl
      · exact h.small s hs hus
      · unfold isUsed at hus; simp at hus
    · have := set_count l k hk ⟨2, 0, 0⟩ isUsed
      rw [if_neg (show ¬ isUsed (⟨2, 0, 0⟩ : Sl) = true by unfold isUsed; simp), if_pos (match_used hm)] at this
      exact this
    · have := set_count l k hk ⟨2, 0, 0⟩ (fun s => matchS (p : Int) s && s.f2 == (q : Int))
      rw [if_pos (by rw [hm, h2]; simp), if_neg (by intro h3; rw [Bool.and_eq_true] at h3; exact hz _ h3.1)] at this
      exact this
    · have := set_count l k hk ⟨2, 0, 0⟩ (fun s => matchS (p' : Int) s && s.f2 == (q' : Int))
      rw [if_neg (by
        intro h3
        rw [Bool.and_eq_true, beq_iff_eq] at h3
        have hm2 := hm
        unfold matchS at hm2 h3
        rw [Bool.and_eq_true, beq_iff_eq, beq_iff_eq] at hm2
        rw [Bool.and_eq_true, beq_iff_eq, beq_iff_eq] at h3
        exact hne ⟨by have := h3.1.2.symm.trans hm2.2; omega, by have := h3.2.symm.trans h2; omega⟩), if_neg (by intro h3; rw [Bool.and_eq_true] at h3; exact hz _ h3.1)] at this
      exact this
/-- What is found is small, and as often there as the table says. -/
theorem OkK.found {n : Nat} {l : List Sl} (h : OkK n l) (p : Nat) : (findV l p).length ≤ n ∧ (∀ x ∈ findV l p, ∃ q : Nat, q < 3 ∧ x = q) ∧ ∀ q : Nat, (findV l p).countP (fun x => x == (q : Int)) = cnt l p q := by
  have hp : (0 : Int) ≤ (p : Int) := by omega
  refine ⟨?_, fun x hx => ?_, fun q => find_count h.ok.fit hp (fun x => x == (q : Int))⟩
  · rw [find_len h.ok.fit hp]
    have := List.countP_le_length (p := matchS (p : Int)) (l := l)
    rw [h.ok.len] at this
    exact this
  · have h1 := find_count h.ok.fit hp (fun y => y == x)
    have h2 : 0 < (findV l p).countP (fun y => y == x) := List.countP_pos_iff.2 ⟨x, hx, by simp⟩
    rw [h1, List.countP_pos_iff] at h2
    obtain ⟨s, hs, hm⟩ := h2
    rw [Bool.and_eq_true, beq_iff_eq] at hm
    obtain ⟨p', q, _, hq, _, h3⟩ := h.small s hs (match_used hm.1)
    exact ⟨q, hq, by rw [← hm.2, h3]⟩
theorem okK_zeros (n : Nat) : OkK n (List.replicate n zS) := ⟨⟨List.length_replicate, fit_zeros n⟩, fun s hs hu => by rw [List.eq_of_mem_replicate hs] at hu; cases hu⟩
theorem cnt_zeros (n p q : Nat) : cnt (List.replicate n zS) p q = 0 := by
  unfold cnt
  rw [List.countP_replicate, if_neg (by intro h; rw [Bool.and_eq_true] at h; have := match_used h.1; cases this)]
/-- Arrays of three numbers, compared. -/
theorem eqA3 (d : Nat) (w : World) (a b c : Int) : (Op.equalIn (d + 2) 25 (.agg #[.int .i64 a, .int .i64 b, .int .i64 c]) (.agg #[.int .i64 a, .int .i64 b, .int .i64 c])).run Try.prog w = .ok true w := by
  have hu := Try.underlying25
  have hi : ∃ i, Try.prog.info? 3 = some i ∧ i.size = 1 := by
    obtain ⟨i, h1, _, h2, _⟩ := info_parts info3
    exact ⟨i, h1, h2⟩
  obtain ⟨i, h1, h2⟩ := hi
  rw [show d + 2 = (d + 1) + 1 from rfl, run_equalIn_array w (d + 1) _ _ hu h1]
  have hui := Try.underlying3
  have hc : Try.prog.cellsOf 3 = 1 := by kernel_rfl
  simp [Op.eqItems, List.range_succ, h2, hc]
  go_simp
end Go.Proofs.Ytnmafncghbkogaa.X
