/- Parts of our texts ModelPure, ModelLaws: what LawModelMade leans on. -/
import Derived.Test.YtcahhknehmhlaaaPAllx8
import Derived.Test.YtcahhknehmhlaaaPAllx12
import Derived.Test.YtcahhknehmhlaaaPAllx13
import Derived.Test.YtcahhknehmhlaaaBase
import Derived.Test.YtcahhknehmhlaaaModelPart
namespace Go.Proofs.Ytcahhknehmhlaaa.X
open Go.RowKit Go.Proofs.Ytcahhknehmhlaaa.PAll Go.Proofs.YtcahhknehmhlaaaW.PrintWords Go.Proofs.YtcahhknehmhlaaaW.PrintLast Go.Proofs.YtcahhknehmhlaaaW.PrintMore
theorem wrap_succ {i : Nat} (h : i < 9223372036854775807) : wrap64 ((i : Int) + 1) = ((i + 1 : Nat) : Int) := by
  rw [wrap64_in (by omega) (by omega)]
  omega
theorem sames_l0 (l : List ByteArray) (hl : l.length ≤ 9223372036854775806) : ∀ (d i : Nat), i + d = l.length → Ev (fun k => clinkerref13_Same.l0 k l l (i : Int)) true
  | 0, i, hi => Ev.step (fun k => clinkerref13_Same.l0.eq_2 ..) (Ev.ite_neg (by omega) (Ev.now true))
  | d + 1, i, hi => by
    have ih := sames_l0 l hl d (i + 1) (by omega)
    refine Ev.step (fun k => clinkerref13_Same.l0.eq_2 ..) (Ev.ite_pos (by omega) (Ev.ite_pos (by omega) (Ev.ite_pos (by omega) (Ev.ite_pos rfl ?_))))
    rw [wrap_succ (by omega)]
    exact ih
theorem sames_ev (l : List ByteArray) (hl : l.length ≤ 9223372036854775806) : Ev (fun k => clinkerref13_Same.f k l l) true :=
  Ev.ite_pos rfl (sames_l0 l hl l.length 0 (by omega))
theorem samea_ev (e : Int) (l : List ByteArray) (hl : l.length ≤ 9223372036854775806) : Ev (fun k => clinkerref13_SameAnswer.f k e l e l) true :=
  Ev.ite_pos rfl (Ev.bind (sames_ev l hl) (Ev.now true))

def laid (kind count : Int) (data : List ByteArray) : List ByteArray := if kind = 2 then data else if kind = 3 then List.replicate count.toNat ByteArray.empty else []
theorem setMany_snoc : ∀ (vs xs : List ByteArray) (i : Nat) (v : ByteArray), setMany xs i (vs ++ [v]) = (setMany xs i vs).set (i + vs.length) v
  | [], xs, i, v => rfl
  | u :: r, xs, i, v => by
    rw [List.cons_append, setMany, setMany, setMany_snoc r, List.length_cons]
    congr 1
    omega
theorem setMany_take {xs vs : List ByteArray} {o i : Nat} (hi : i < vs.length) : setMany xs o (vs.take (i + 1)) = (setMany xs o (vs.take i)).set (o + i) vs[i] := by
  rw [List.take_succ_eq_append_getElem hi, setMany_snoc, List.length_take, Nat.min_eq_left (by omega)]
theorem part_laid {l : List ByteArray} {kind first count : Int} {data : List ByteArray} {n : Int} (h : checkV (l.length : Int) kind first count data = 0) : partV l kind first count data n = setMany l first.toNat ((laid kind count data).take n.toNat) := by
  unfold partV laid
  rw [if_neg (by rw [h]; simp)]
  have hu : ∀ k : Nat, (upTo n (k : Int)).toNat = min n.toNat k := by
    intro k
    unfold upTo
    split <;> split <;> omega
  by_cases h2 : kind = 2
  · rw [if_pos h2, if_pos h2, hu]
    congr 1
    rw [Nat.min_comm, List.take_eq_take_iff]
    omega
  · rw [if_neg h2, if_neg h2]
    by_cases h3 : kind = 3
    · rw [if_pos h3, if_pos h3, List.take_replicate]
      congr 2
      unfold upTo
      split <;> split <;> omega
    · rw [if_neg h3, if_neg h3, List.take_nil]
      rfl
def doV (l : List ByteArray) (kind first count : Int) (data : List ByteArray) : List ByteArray × Int × List ByteArray :=
  if checkV (l.length : Int) kind first count data = 0 then (if kind = 1 then (l, 0, (l.take (first + count).toNat).drop first.toNat) else (partV l kind first count data (l.length : Int), 0, []))
  else (l, checkV (l.length : Int) kind first count data, [])
theorem laid_len {l : List ByteArray} {kind first count : Int} {data : List ByteArray} (hl : l.length ≤ 8796093022207) (h : checkV (l.length : Int) kind first count data = 0) :
    laid kind count data = [] ∨ 0 ≤ first ∧ first + ((laid kind count data).length : Int) ≤ l.length := by
  unfold laid
  by_cases h4 : kind = 4
  · exact .inl (by rw [if_neg (by omega), if_neg (by omega)])
  · obtain ⟨mk, _, a, b, c, d⟩ := part_facts (by omega) (by omega) h4 h
    rcases d with ⟨rfl, rfl⟩ | ⟨rfl, rfl⟩ | ⟨rfl, rfl⟩
    · exact .inr ⟨b, by rw [if_pos rfl]; exact c⟩
    · exact .inl rfl
    · refine .inr ⟨b, ?_⟩
      rw [if_neg (by omega), if_pos rfl, List.length_replicate]
      omega
theorem mdo_eq (l : List ByteArray) (kind first count : Int) (data : List ByteArray) (hl : l.length ≤ 8796093022207) : model_Do.f l kind first count data = some (doV l kind first count data) := by
  unfold model_Do.f model_Check.f doV model_Part.f slices_Clone_string_string.f
  rw [Option.bind_some]
  by_cases h : checkV (l.length : Int) kind first count data = 0
  · rw [if_pos h, if_pos h]
    by_cases h1 : kind = 1
    · subst h1
      obtain ⟨mk, _, a, b, c, d⟩ := part_facts (by omega) (by omega) (by omega) h
      obtain rfl : mk = count := by omega
      rw [if_pos rfl, if_pos rfl, wrap64_in (by omega) (by omega), if_pos b, if_pos (by omega), if_pos (by omega), if_pos (by rw [List.length_drop, List.length_take]; omega)]
      rfl
    · rw [if_neg h1, if_neg h1, if_pos hl]
      rfl
  · rw [if_neg h, if_neg h]
theorem rdOf_get {l : List ByteArray} {i : Nat} (h : i < l.length) : rdOf ByteArray.empty l (i : Int) = l[i] := by
  unfold rdOf
  rw [Int.toNat_natCast, List.getD_eq_getElem?_getD, List.getElem?_eq_getElem h]
  rfl
theorem rdo_l0 (l data : List ByteArray) (kind first count : Int) (hl : l.length ≤ 8796093022207) (h0 : 0 ≤ first) (h1 : first + (data.length : Int) ≤ l.length) : ∀ (d i : Nat), i + d = data.length →
    Ev (fun k => clinkerref13_Do.l0 k (setMany l first.toNat (data.take i)) (i : Int) kind first count data) (setMany l first.toNat data, 0, [])
  | 0, i, hi => by
    rw [List.take_of_length_le (by omega)]
    exact Ev.step (fun k => clinkerref13_Do.l0.eq_2 ..) (Ev.ite_neg (by omega) (Ev.now _))
  | d + 1, i, hi => by
    have ih := rdo_l0 l data kind first count hl h0 h1 d (i + 1) (by omega)
    rw [setMany_take (by omega)] at ih
    have hlen := setMany_length (data.take i) l first.toNat
    refine Ev.step (fun k => clinkerref13_Do.l0.eq_2 ..) (Ev.ite_pos (by omega) (Ev.ite_pos (by omega) ?_))
    rw [wrap64_in (i := first + (i : Int)) (by omega) (by omega), rdOf_get (show i < data.length by omega), wrap_succ (by omega), show (first + (i : Int)).toNat = first.toNat + i by omega]
    exact Ev.ite_pos (by omega) (Ev.ite_pos (by omega) ih)
theorem rdo_l1 (l data : List ByteArray) (kind first count : Int) (hl : l.length ≤ 8796093022207) (h0 : 0 ≤ first) (hc : 0 ≤ count) (h1 : first + count ≤ l.length) : ∀ (d i : Nat), i + d = count.toNat →
    Ev (fun k => clinkerref13_Do.l1 k (setMany l first.toNat ((List.replicate count.toNat ByteArray.empty).take i)) (i : Int) kind first count data) (setMany l first.toNat (List.replicate count.toNat ByteArray.empty), 0, [])
  | 0, i, hi => by
    rw [List.take_of_length_le (by rw [List.length_replicate]; omega)]
    exact Ev.step (fun k => clinkerref13_Do.l1.eq_2 ..) (Ev.ite_neg (by omega) (Ev.now _))
  | d + 1, i, hi => by
    have ih := rdo_l1 l data kind first count hl h0 hc h1 d (i + 1) (by omega)
    rw [setMany_take (by rw [List.length_replicate]; omega), List.getElem_replicate] at ih
    have hlen := setMany_length ((List.replicate count.toNat ByteArray.empty).take i) l first.toNat
    refine Ev.step (fun k => clinkerref13_Do.l1.eq_2 ..) (Ev.ite_pos (by omega) ?_)
    rw [wrap64_in (i := first + (i : Int)) (by omega) (by omega), wrap_succ (by omega), show (first + (i : Int)).toNat = first.toNat + i by omega]
    exact Ev.ite_pos (by omega) (Ev.ite_pos (by omega) ih)
theorem rdo_ev (l : List ByteArray) (kind first count : Int) (data : List ByteArray) (hl : l.length ≤ 8796093022207) : Ev (fun k => clinkerref13_Do.f k l kind first count data) (doV l kind first count data) := by
  unfold clinkerref13_Do.f clinkerref13_Check.f doV
  refine Ev.ite_pos (by rw [List.length_nil]; omega) (Ev.pure_ (Ev.pure_ ?_))
  rw [List.nil_append]
  by_cases h : checkV (l.length : Int) kind first count data = 0
  · refine Ev.ite_pos h ?_
    rw [if_pos h]
    by_cases h1 : kind = 1
    · subst h1
      obtain ⟨mk, _, a, b, c, d⟩ := part_facts (by omega) (by omega) (by omega) h
      obtain rfl : mk = count := by omega
      rw [if_pos rfl, wrap64_in (by omega) (by omega)]
      exact Ev.ite_pos rfl (Ev.ite_pos b (Ev.ite_pos (by omega) (Ev.ite_pos (by omega) (Ev.now _))))
    · rw [if_neg h1, part_laid h]
      refine Ev.ite_neg h1 ?_
      have hll := laid_len hl h
      by_cases h2 : kind = 2
      · subst h2
        rw [show laid 2 count data = data from rfl] at hll ⊢
        have hb : 0 ≤ first ∧ first + (data.length : Int) ≤ l.length := by
          obtain ⟨mk, _, a, b, c, d⟩ := part_facts (by omega) (by omega) (by omega) h
          omega
        rw [List.take_of_length_le (by omega)]
        exact Ev.ite_pos rfl (rdo_l0 l data 2 first count hl hb.1 hb.2 data.length 0 (by omega))
      · refine Ev.ite_neg h2 ?_
        by_cases h3 : kind = 3
        · subst h3
          obtain ⟨mk, _, a, b, c, d⟩ := part_facts (by omega) (by omega) (by omega) h
          obtain rfl : mk = count := by omega
          rw [show laid 3 mk data = List.replicate mk.toNat ByteArray.empty from rfl, List.take_of_length_le (by rw [List.length_replicate]; omega)]
          exact Ev.ite_pos rfl (rdo_l1 l data 3 first mk hl b (by omega) c mk.toNat 0 (by omega))
        · have e : laid kind count data = [] := by unfold laid; rw [if_neg h2, if_neg h3]
          rw [e, List.take_nil]
          exact Ev.ite_neg h3 (Ev.now _)
  · rw [if_neg h]
    exact Ev.ite_neg h (Ev.now _)

theorem take_over {vs : List ByteArray} {i : Nat} (h : vs.length ≤ i) : vs.take (i + 1) = vs.take i := by
  rw [List.take_of_length_le (by omega), List.take_of_length_le h]
theorem rpart_l0 (l data vs : List ByteArray) (kind first count n : Int) (hl : l.length ≤ 8796093022207) (e : laid kind count data = vs) (hv : vs = [] ∨ 0 ≤ first ∧ first + (vs.length : Int) ≤ l.length) : ∀ (d i : Nat), i + d = min n.toNat l.length →
    Ev (fun k => clinkerref13_Part.l0 k l n (setMany l first.toNat (vs.take i)) (i : Int) kind first count data) (setMany l first.toNat (vs.take (min n.toNat l.length)))
  | 0, i, hi => by
    obtain rfl : i = min n.toNat l.length := by omega
    refine Ev.step (fun k => clinkerref13_Part.l0.eq_2 ..) ?_
    by_cases h : ((min n.toNat l.length : Nat) : Int) < n
    · exact Ev.ite_pos h (Ev.step (fun k => clinkerref13_Part.j1.eq_2 ..) (Ev.ite_neg (not_dec (by omega)) (Ev.now _)))
    · exact Ev.ite_neg h (Ev.step (fun k => clinkerref13_Part.j1.eq_2 ..) (Ev.ite_neg (by simp) (Ev.now _)))
  | d + 1, i, hi => by
    have ih := rpart_l0 l data vs kind first count n hl e hv d (i + 1) (by omega)
    have hlen := setMany_length (vs.take i) l first.toNat
    refine Ev.step (fun k => clinkerref13_Part.l0.eq_2 ..) (Ev.ite_pos (by omega) (Ev.step (fun k => clinkerref13_Part.j1.eq_2 ..) (Ev.ite_pos (decide_eq_true (by omega)) ?_)))
    by_cases h2 : kind = 2
    · subst h2
      obtain rfl : data = vs := e
      refine Ev.ite_pos rfl (Ev.step (fun k => clinkerref13_Part.j2.eq_2 ..) ?_)
      by_cases hid : i < data.length
      · have hv2 : 0 ≤ first ∧ first + (data.length : Int) ≤ l.length := by
          rcases hv with rfl | hv
          · simp at hid
          · exact hv
        rw [setMany_take hid] at ih
        refine Ev.ite_pos (decide_eq_true (by omega)) (Ev.ite_pos (by omega) (Ev.ite_pos (by omega) ?_))
        rw [wrap64_in (i := first + (i : Int)) (by omega) (by omega), rdOf_get hid, wrap_succ (by omega), show (first + (i : Int)).toNat = first.toNat + i by omega]
        exact Ev.ite_pos (by omega) (Ev.ite_pos (by omega) ih)
      · rw [take_over (by omega)] at ih
        rw [wrap_succ (by omega)]
        exact Ev.ite_neg (not_dec (by omega)) (Ev.ite_neg (by omega) ih)
    · refine Ev.ite_neg h2 (Ev.step (fun k => clinkerref13_Part.j2.eq_2 ..) (Ev.ite_neg (by simp) ?_))
      by_cases h3 : kind = 3
      · subst h3
        obtain rfl : List.replicate count.toNat ByteArray.empty = vs := e
        refine Ev.ite_pos rfl ?_
        rw [List.length_replicate] at hv
        by_cases hid : (i : Int) < count
        · have hv2 : 0 ≤ first ∧ first + count ≤ l.length := by
            rcases hv with hv | hv
            · have := congrArg List.length hv
              rw [List.length_replicate, List.length_nil] at this
              omega
            · omega
          rw [setMany_take (by rw [List.length_replicate]; omega), List.getElem_replicate] at ih
          refine Ev.ite_pos hid ?_
          rw [wrap64_in (i := first + (i : Int)) (by omega) (by omega), wrap_succ (by omega), show (first + (i : Int)).toNat = first.toNat + i by omega]
          exact Ev.ite_pos (by omega) (Ev.ite_pos (by omega) ih)
        · rw [take_over (by rw [List.length_replicate]; omega)] at ih
          rw [wrap_succ (by omega)]
          exact Ev.ite_neg hid ih
      · obtain rfl : [] = vs := by rw [← e]; unfold laid; rw [if_neg h2, if_neg h3]
        rw [List.take_nil] at ih ⊢
        rw [wrap_succ (by omega)]
        exact Ev.ite_neg h3 ih
theorem rpart_ev (l : List ByteArray) (kind first count : Int) (data : List ByteArray) (n : Int) (hl : l.length ≤ 8796093022207) : Ev (fun k => clinkerref13_Part.f k l kind first count data n) (partV l kind first count data n) := by
  unfold clinkerref13_Part.f clinkerref13_Check.f
  refine Ev.ite_pos (by rw [List.length_nil]; omega) (Ev.pure_ (Ev.pure_ ?_))
  rw [List.nil_append]
  by_cases h : checkV (l.length : Int) kind first count data = 0
  · refine Ev.ite_pos h ?_
    have hv := laid_len hl h
    have hp := rpart_l0 l data _ kind first count n hl rfl hv (min n.toNat l.length) 0 (by omega)
    rw [part_laid h]
    have e : (laid kind count data).take (min n.toNat l.length) = (laid kind count data).take n.toNat := by
      rw [List.take_eq_take_iff]
      rcases hv with hv | hv
      · rw [hv, List.length_nil]; omega
      · omega
    rw [e] at hp
    exact hp
  · rw [part_no h]
    exact Ev.ite_neg h (Ev.now _)
end Go.Proofs.Ytcahhknehmhlaaa.X
namespace Go.Proofs.Ytcahhknehmhlaaa.X
open Go.RowKit Go.Proofs.Ytcahhknehmhlaaa.PAll Go.Proofs.YtcahhknehmhlaaaW.PrintWords Go.Proofs.YtcahhknehmhlaaaW.PrintLast Go.Proofs.YtcahhknehmhlaaaW.PrintMore
theorem part_len (l : List ByteArray) (kind first count : Int) (data : List ByteArray) (n : Int) : (partV l kind first count data n).length = l.length := by
  by_cases h : checkV (l.length : Int) kind first count data = 0
  · rw [part_laid h, setMany_length]
  · rw [part_no h]
theorem do_len (l : List ByteArray) (kind first count : Int) (data : List ByteArray) : (doV l kind first count data).1.length = l.length ∧ (doV l kind first count data).2.2.length ≤ l.length := by
  unfold doV
  split
  · split
    · exact ⟨rfl, by simp only [List.length_drop, List.length_take]; omega⟩
    · exact ⟨part_len .., Nat.zero_le _⟩
  · exact ⟨rfl, Nat.zero_le _⟩
theorem same_ev (l : List ByteArray) (kind first count : Int) (data : List ByteArray) (n : Int) (hl : l.length ≤ 8796093022207) : Ev (fun k => clinkerlaw13_same.f k l kind first count data n) true := by
  unfold clinkerlaw13_same.f model_Check.f clinkerref13_Check.f model_Part.f
  rw [mdo_eq l kind first count data hl]
  have hd := do_len l kind first count data
  have hp := part_len l kind first count data n
  refine Ev.pure_ (Ev.bind (rdo_ev l kind first count data hl) (Ev.bind (sames_ev _ (by omega)) (Ev.ite_pos rfl (Ev.bind (samea_ev _ _ (by omega)) (Ev.ite_pos rfl ?_)))))
  rw [if_pos hl]
  refine Ev.pure_ (Ev.bind (rpart_ev l kind first count data n hl) (Ev.bind (sames_ev _ (by omega)) (Ev.ite_pos rfl (Ev.pure_ (Ev.pure_ ?_)))))
  rw [beq_self_eq_true]
  exact Ev.now true
theorem awake_ev : Ev (fun k => clinkerlaw13_awake.f k) true := by
  unfold clinkerlaw13_awake.f
  have e3 : model_New.f 3 = some [⟨#[]⟩, ⟨#[]⟩, ⟨#[]⟩] := by kernel_rfl
  have e2 : model_New.f 2 = some [⟨#[]⟩, ⟨#[]⟩] := by kernel_rfl
  have d1 : model_Do.f [⟨#[]⟩, ⟨#[]⟩, ⟨#[]⟩] 2 1 0 [⟨#[97]⟩, ⟨#[98]⟩] = some ([⟨#[]⟩, ⟨#[97]⟩, ⟨#[98]⟩], 0, []) := by kernel_rfl
  have d2 : model_Do.f [⟨#[]⟩, ⟨#[97]⟩, ⟨#[98]⟩] 1 0 3 [] = some ([⟨#[]⟩, ⟨#[97]⟩, ⟨#[98]⟩], 0, [⟨#[]⟩, ⟨#[97]⟩, ⟨#[98]⟩]) := by kernel_rfl
  have d3 : model_Do.f [⟨#[]⟩, ⟨#[97]⟩, ⟨#[98]⟩] 1 0 4 [] = some ([⟨#[]⟩, ⟨#[97]⟩, ⟨#[98]⟩], 50, []) := by kernel_rfl
  have c1 : model_Check.f 3 0 0 0 [] = some 1 := by kernel_rfl
  have p1 : model_Part.f [⟨#[]⟩, ⟨#[]⟩] 2 0 0 [⟨#[97]⟩, ⟨#[98]⟩] 1 = some [⟨#[97]⟩, ⟨#[]⟩] := by kernel_rfl
  rw [e3]
  refine Ev.pure_ ?_
  rw [d1]
  refine Ev.pure_ ?_
  dsimp only
  rw [d2]
  refine Ev.pure_ ?_
  rw [d3]
  refine Ev.pure_ ?_
  dsimp only
  refine Ev.ite_pos rfl (Ev.bind (sames_ev _ (by decide)) (Ev.ite_pos rfl (Ev.ite_pos rfl ?_)))
  rw [c1]
  refine Ev.pure_ (Ev.ite_pos rfl ?_)
  rw [e2]
  refine Ev.pure_ ?_
  rw [p1]
  exact Ev.pure_ (Ev.bind (sames_ev _ (by decide)) (Ev.now true))
end Go.Proofs.Ytcahhknehmhlaaa.X
