/- Parts of our texts ModelPure, ModelLaws, ModelReadsLaw, ModelOrderLaw: what ModelPartsLaw leans on. -/
import Derived.Test.YtcahhknehmhlaaaPAllx8
import Derived.Test.YtcahhknehmhlaaaModelMadeB
import Derived.Test.YtcahhknehmhlaaaBase
import Derived.Test.YtcahhknehmhlaaaModelPart
namespace Go.Proofs.Ytcahhknehmhlaaa.X
open Go.RowKit Go.Proofs.Ytcahhknehmhlaaa.PAll Go.Proofs.YtcahhknehmhlaaaW.PrintWords Go.Proofs.YtcahhknehmhlaaaW.PrintLast Go.Proofs.YtcahhknehmhlaaaW.PrintMore
theorem wrap_succ {i : Nat} (h : i < 9223372036854775807) : wrap64 ((i : Int) + 1) = ((i + 1 : Nat) : Int) := by
  rw [wrap64_in (by omega) (by omega)]
  omega
theorem sames_l0 (l : List ByteArray) (hl : l.length ≤ 9223372036854775806) : ∀ (d i : Nat), i + d = l.length → Ev (fun k => clinkerref13_Same.l0 k l l (i : Int)) true
  | 0, i, hi => Ev.step (fun k => clinkerref13_Same.l0.eq_2 ..) (Ev.ite_neg (by omega) (Ev.now true))
  | d + 1, i, hi => by
    have ih := sames_l0 l hl d (i + 1) (by omega)
    refine Ev.step (fun k => clinkerref13_Same.l0.eq_2 ..) (Ev.ite_pos (by omega) (Ev.ite_pos (by omega) (Ev.ite_pos (by omega) (Ev.ite_pos rfl ?_))))
    rw [wrap_succ (by omega)]
    exact ih
theorem sames_ev (l : List ByteArray) (hl : l.length ≤ 9223372036854775806) : Ev (fun k => clinkerref13_Same.f k l l) true :=
  Ev.ite_pos rfl (sames_l0 l hl l.length 0 (by omega))
def laid (kind count : Int) (data : List ByteArray) : List ByteArray := if kind = 2 then data else if kind = 3 then List.replicate count.toNat ByteArray.empty else []
theorem part_laid {l : List ByteArray} {kind first count : Int} {data : List ByteArray} {n : Int} (h : checkV (l.length : Int) kind first count data = 0) : partV l kind first count data n = setMany l first.toNat ((laid kind count data).take n.toNat) := by
  unfold partV laid
  rw [if_neg (by rw [h]; simp)]
  have hu : ∀ k : Nat, (upTo n (k : Int)).toNat = min n.toNat k := by
    intro k
    unfold upTo
    split <;> split <;> omega
  by_cases h2 : kind = 2
  · rw [if_pos h2, if_pos h2, hu]
    congr 1
    rw [Nat.min_comm, List.take_eq_take_iff]
    omega
  · rw [if_neg h2, if_neg h2]
    by_cases h3 : kind = 3
    · rw [if_pos h3, if_pos h3, List.take_replicate]
      congr 2
      unfold upTo
      split <;> split <;> omega
    · rw [if_neg h3, if_neg h3, List.take_nil]
      rfl
def doV (l : List ByteArray) (kind first count : Int) (data : List ByteArray) : List ByteArray × Int × List ByteArray :=
  if checkV (l.length : Int) kind first count data = 0 then (if kind = 1 then (l, 0, (l.take (first + count).toNat).drop first.toNat) else (partV l kind first count data (l.length : Int), 0, []))
  else (l, checkV (l.length : Int) kind first count data, [])
theorem laid_len {l : List ByteArray} {kind first count : Int} {data : List ByteArray} (hl : l.length ≤ 8796093022207) (h : checkV (l.length : Int) kind first count data = 0) :
    laid kind count data = [] ∨ 0 ≤ first ∧ first + ((laid kind count data).length : Int) ≤ l.length := by
  unfold laid
  by_cases h4 : kind = 4
  · exact .inl (by rw [if_neg (by omega), if_neg (by omega)])
  · obtain ⟨mk, _, a, b, c, d⟩ := part_facts (by omega) (by omega) h4 h
    rcases d with ⟨rfl, rfl⟩ | ⟨rfl, rfl⟩ | ⟨rfl, rfl⟩
    · exact .inr ⟨b, by rw [if_pos rfl]; exact c⟩
    · exact .inl rfl
    · refine .inr ⟨b, ?_⟩
      rw [if_neg (by omega), if_pos rfl, List.length_replicate]
      omega
theorem mdo_eq (l : List ByteArray) (kind first count : Int) (data : List ByteArray) (hl : l.length ≤ 8796093022207) : model_Do.f l kind first count data = some (doV l kind first count data) := by
  unfold model_Do.f model_Check.f doV model_Part.f slices_Clone_string_string.f
  rw [Option.bind_some]
  by_cases h : checkV (l.length : Int) kind first count data = 0
  · rw [if_pos h, if_pos h]
    by_cases h1 : kind = 1
    · subst h1
      obtain ⟨mk, _, a, b, c, d⟩ := part_facts (by omega) (by omega) (by omega) h
      obtain rfl : mk = count := by omega
      rw [if_pos rfl, if_pos rfl, wrap64_in (by omega) (by omega), if_pos b, if_pos (by omega), if_pos (by omega), if_pos (by rw [List.length_drop, List.length_take]; omega)]
      rfl
    · rw [if_neg h1, if_neg h1, if_pos hl]
      rfl
  · rw [if_neg h, if_neg h]
end Go.Proofs.Ytcahhknehmhlaaa.X
namespace Go.Proofs.Ytcahhknehmhlaaa.X
open Go.RowKit Go.Proofs.Ytcahhknehmhlaaa.PAll Go.Proofs.YtcahhknehmhlaaaW.PrintWords Go.Proofs.YtcahhknehmhlaaaW.PrintLast Go.Proofs.YtcahhknehmhlaaaW.PrintMore
theorem part_len (l : List ByteArray) (kind first count : Int) (data : List ByteArray) (n : Int) : (partV l kind first count data n).length = l.length := by
  by_cases h : checkV (l.length : Int) kind first count data = 0
  · rw [part_laid h, setMany_length]
  · rw [part_no h]
theorem do_len (l : List ByteArray) (kind first count : Int) (data : List ByteArray) : (doV l kind first count data).1.length = l.length ∧ (doV l kind first count data).2.2.length ≤ l.length := by
  unfold doV
  split
  · split
    · exact ⟨rfl, by simp only [List.length_drop, List.length_take]; omega⟩
    · exact ⟨part_len .., Nat.zero_le _⟩
  · exact ⟨rfl, Nat.zero_le _⟩
theorem awake_ev : Ev (fun k => clinkerlaw13_awake.f k) true := by
  unfold clinkerlaw13_awake.f
  have e3 : model_New.f 3 = some [⟨#[]⟩, ⟨#[]⟩, ⟨#[]⟩] := by kernel_rfl
  have e2 : model_New.f 2 = some [⟨#[]⟩, ⟨#[]⟩] := by kernel_rfl
  have d1 : model_Do.f [⟨#[]⟩, ⟨#[]⟩, ⟨#[]⟩] 2 1 0 [⟨#[97]⟩, ⟨#[98]⟩] = some ([⟨#[]⟩, ⟨#[97]⟩, ⟨#[98]⟩], 0, []) := by kernel_rfl
  have d2 : model_Do.f [⟨#[]⟩, ⟨#[97]⟩, ⟨#[98]⟩] 1 0 3 [] = some ([⟨#[]⟩, ⟨#[97]⟩, ⟨#[98]⟩], 0, [⟨#[]⟩, ⟨#[97]⟩, ⟨#[98]⟩]) := by kernel_rfl
  have d3 : model_Do.f [⟨#[]⟩, ⟨#[97]⟩, ⟨#[98]⟩] 1 0 4 [] = some ([⟨#[]⟩, ⟨#[97]⟩, ⟨#[98]⟩], 50, []) := by kernel_rfl
  have c1 : model_Check.f 3 0 0 0 [] = some 1 := by kernel_rfl
  have p1 : model_Part.f [⟨#[]⟩, ⟨#[]⟩] 2 0 0 [⟨#[97]⟩, ⟨#[98]⟩] 1 = some [⟨#[97]⟩, ⟨#[]⟩] := by kernel_rfl
  rw [e3]
  refine Ev.pure_ ?_
  rw [d1]
  refine Ev.pure_ ?_
  dsimp only
  rw [d2]
  refine Ev.pure_ ?_
  rw [d3]
  refine Ev.pure_ ?_
  dsimp only
  refine Ev.ite_pos rfl (Ev.bind (sames_ev _ (by decide)) (Ev.ite_pos rfl (Ev.ite_pos rfl ?_)))
  rw [c1]
  refine Ev.pure_ (Ev.ite_pos rfl ?_)
  rw [e2]
  refine Ev.pure_ ?_
  rw [p1]
  exact Ev.pure_ (Ev.bind (sames_ev _ (by decide)) (Ev.now true))
end Go.Proofs.Ytcahhknehmhlaaa.X
namespace Go.Proofs.Ytcahhknehmhlaaa.X
open Go.RowKit Go.Proofs.Ytcahhknehmhlaaa.PAll Go.Proofs.YtcahhknehmhlaaaW.PrintWords Go.Proofs.YtcahhknehmhlaaaW.PrintLast Go.Proofs.YtcahhknehmhlaaaW.PrintMore
theorem pnew_eq (n : Int) : model_New.f n = some (List.replicate (min n.toNat 64) ByteArray.empty) := by
  unfold model_New.f mn mx
  have e : (if 64 < (if n < 0 then 0 else n) then (64 : Int) else (if n < 0 then 0 else n)) = ((min n.toNat 64 : Nat) : Int) := by
    split <;> split <;> omega
  rw [e, if_pos (by omega), Int.toNat_natCast, if_pos (by omega)]
  rfl
abbrev at0 (l : List ByteArray) (s : Nat) : ByteArray := l.getD s ByteArray.empty
theorem setMany_get : ∀ (vs xs : List ByteArray) (i s : Nat), s < xs.length → at0 (setMany xs i vs) s = if i ≤ s ∧ s - i < vs.length then at0 vs (s - i) else at0 xs s
  | [], xs, i, s, h => by
    rw [if_neg (by simp)]
    rfl
  | v :: r, xs, i, s, h => by
    rw [setMany, setMany_get r (xs.set i v) (i + 1) s (by rw [List.length_set]; exact h)]
    by_cases h1 : s < i
    · rw [if_neg (by omega), if_neg (by omega)]
      simp only [at0, List.getD_eq_getElem?_getD]
      rw [List.getElem?_set_ne (by omega)]
    · by_cases h2 : s = i
      · subst h2
        rw [if_neg (by omega), if_pos (by simp)]
        simp only [at0, List.getD_eq_getElem?_getD]
        rw [List.getElem?_set_self h, Nat.sub_self]
        rfl
      · obtain ⟨j, rfl⟩ : ∃ j, s = i + 1 + j := ⟨s - (i + 1), by omega⟩
        have e1 : i + 1 + j - (i + 1) = j := by omega
        have e2 : i + 1 + j - i = j + 1 := by omega
        rw [e1, e2]
        by_cases h3 : j < r.length
        · rw [if_pos ⟨by omega, h3⟩, if_pos ⟨by omega, by simpa using h3⟩]
          rfl
        · rw [if_neg (by omega), if_neg (by simp; omega)]
          simp only [at0, List.getD_eq_getElem?_getD]
          rw [List.getElem?_set_ne (by omega)]
theorem do_at {m : List ByteArray} {kind first count : Int} {data : List ByteArray} (hm : m.length ≤ 64) {s : Nat} (hs : s < m.length) (h : checkV (m.length : Int) kind first count data = 0) :
    at0 (doV m kind first count data).1 s = if first.toNat ≤ s ∧ s - first.toNat < (laid kind count data).length then at0 (laid kind count data) (s - first.toNat) else at0 m s := by
  have hll := laid_len (by omega) h
  have e : (laid kind count data).take ((m.length : Nat) : Int).toNat = laid kind count data := by
    rw [Int.toNat_natCast]
    rcases hll with h1 | ⟨h1, h2⟩
    · rw [h1, List.take_nil]
    · exact List.take_of_length_le (by omega)
  unfold doV
  rw [if_pos h]
  by_cases h1 : kind = 1
  · subst h1
    rw [if_pos rfl, show laid 1 count data = [] from rfl, if_neg (by simp)]
  · rw [if_neg h1, part_laid h, e]
    exact setMany_get _ m _ s hs
theorem do_no {m : List ByteArray} {kind first count : Int} {data : List ByteArray} (h : ¬ (doV m kind first count data).2.1 = 0) : (doV m kind first count data).1 = m := by
  by_cases h1 : checkV (m.length : Int) kind first count data = 0
  · exfalso
    apply h
    unfold doV
    rw [if_pos h1]
    split <;> rfl
  · unfold doV
    rw [if_neg h1]
theorem rdOf_at (l : List ByteArray) (s : Nat) : rdOf ByteArray.empty l (s : Int) = at0 l s := by
  unfold rdOf
  rw [Int.toNat_natCast]
theorem madeD_len (l : List Int) : ∀ (n j : Nat) (ds : List ByteArray), (madeD l n j ds).length = ds.length + n
  | 0, _, _ => rfl
  | n + 1, j, ds => by
    rw [madeD, madeD_len l n, List.length_append]
    simp
    omega
theorem madeV_facts (l : List Int) : -1 ≤ (madeV l).2.1 ∧ (madeV l).2.1 ≤ 12 ∧ (madeV l).2.2.2.length ≤ 4 := by
  have h1 := pk_in l 1 (n := 14) (by omega)
  have h2 := pk_in l 3 (n := 5) (by omega)
  unfold madeV
  refine ⟨by dsimp only; omega, by dsimp only; omega, ?_⟩
  dsimp only
  rw [madeD_len]
  simp
  omega
end Go.Proofs.Ytcahhknehmhlaaa.X
namespace Go.Proofs.Ytcahhknehmhlaaa.X
open Go.RowKit Go.Proofs.Ytcahhknehmhlaaa.PAll Go.Proofs.YtcahhknehmhlaaaW.PrintWords Go.Proofs.YtcahhknehmhlaaaW.PrintLast Go.Proofs.YtcahhknehmhlaaaW.PrintMore
theorem ext_at {l m : List ByteArray} (h : l.length = m.length) (h2 : ∀ s, s < l.length → at0 l s = at0 m s) : l = m :=
  List.ext_getElem h (fun i h3 h4 => by
    have := h2 i h3
    simp only [at0, List.getD_eq_getElem?_getD, List.getElem?_eq_getElem h3, List.getElem?_eq_getElem h4, Option.getD_some] at this
    exact this)
structure Few5 (kind first count : Int) (data : List ByteArray) : Prop where
  hf : -1 ≤ first
  hl : (laid kind count data).length ≤ 5
theorem T_at {m : List ByteArray} {n : Nat} (hn : m.length = n) (hm : n ≤ 64) {kind first count : Int} {data : List ByteArray} {s : Nat} (hs : s < n) :
    at0 (doV m kind first count data).1 s = if checkV (n : Int) kind first count data = 0 ∧ first.toNat ≤ s ∧ s - first.toNat < (laid kind count data).length then at0 (laid kind count data) (s - first.toNat) else at0 m s := by
  subst hn
  by_cases h : checkV (m.length : Int) kind first count data = 0
  · rw [do_at hm hs h]
    by_cases h2 : first.toNat ≤ s ∧ s - first.toNat < (laid kind count data).length
    · rw [if_pos h2, if_pos ⟨h, h2⟩]
    · rw [if_neg h2, if_neg (fun h3 => h2 h3.2)]
  · rw [if_neg (fun h3 => h h3.1)]
    have e : (doV m kind first count data).1 = m := by
      unfold doV
      rw [if_neg h]
    rw [e]
theorem madeV_few (l : List Int) : Few5 (madeV l).1 (madeV l).2.1 (madeV l).2.2.1 (madeV l).2.2.2 := by
  obtain ⟨f1, f2, f3⟩ := madeV_facts l
  have h2 := pk_in l 2 (n := 6) (by omega)
  have e : (madeV l).2.2.1 = pk l 2 6 := rfl
  refine ⟨f1, ?_⟩
  unfold laid
  split
  · omega
  · split
    · rw [List.length_replicate, e]; omega
    · simp
set_option linter.unusedSectionVars false
section
variable (m : List ByteArray) (hm : m.length = 12) (k1 f1 c1 : Int) (d1 : List ByteArray) (k2 f2 c2 : Int) (d2 : List ByteArray) (h1 : Few5 k1 f1 c1 d1) (h2 : Few5 k2 f2 c2 d2) (b1 : f1 ≤ 100) (b2 : f2 ≤ 100)
end
end Go.Proofs.Ytcahhknehmhlaaa.X
