/- Small words on numbers that wrap, bytes and texts, and on rounds. -/
import Derived.Test.YtnmafncghbkogaaWMore
import Derived.WalkKit
namespace Go.Proofs.Ytnmafncghbkogaa.X
open Go.RowKit Go.Proofs.YtnmafncghbkogaaW.PrintWords Go.Proofs.YtnmafncghbkogaaW.PrintLast Go.Proofs.YtnmafncghbkogaaW.PrintMore

theorem wrap64_in {i : Int} (h0 : -9223372036854775808 ≤ i) (h1 : i ≤ 9223372036854775807) : wrap64 i = i := by
  unfold wrap64
  omega

theorem Ev.ite_pos {α : Type} {c : Prop} [Decidable c] {a b : Nat → Option α} {r : α} (hc : c) (h : Ev a r) : Ev (fun k => if c then a k else b k) r :=
  Ev.congr (fun _ => if_pos hc) h
theorem Ev.ite_neg {α : Type} {c : Prop} [Decidable c] {a b : Nat → Option α} {r : α} (hc : ¬ c) (h : Ev b r) : Ev (fun k => if c then a k else b k) r :=
  Ev.congr (fun _ => if_neg hc) h
theorem not_dec {p : Prop} [Decidable p] (h : ¬ p) : ¬ (decide p = true) := fun e => h (of_decide_eq_true e)
theorem Ev.pure_ {α β : Type} {a : α} {f : Nat → α → Option β} {r : β} (h : Ev (fun k => f k a) r) : Ev (fun k => (some a).bind (f k)) r := h

theorem bt_get (s : ByteArray) (i : Nat) (h : i < s.size) : ∃ x rest, s.data.toList.drop i = x :: rest ∧ s.data.toList.drop (i + 1) = rest ∧ bt s (i : Int) = (x.toNat : Int) := by
  have hl : i < s.data.toList.length := by rw [data_length]; exact h
  refine ⟨s.data.toList[i], s.data.toList.drop (i + 1), List.drop_eq_getElem_cons hl, rfl, ?_⟩
  unfold bt
  rw [dif_pos (by simpa using h)]
  simp [ByteArray.getElem_eq_getElem_data]

/-! Bytes as numbers. -/
theorem toList_loop (s : ByteArray) : ∀ (d i : Nat) (r : List UInt8), s.size - i = d → ByteArray.toList.loop s i r = r.reverse ++ s.data.toList.drop i := by
  intro d
  induction d with
  | zero =>
    intro i r h
    unfold ByteArray.toList.loop
    rw [if_neg (by omega), List.drop_eq_nil_of_le (by rw [data_length]; omega), List.append_nil]
  | succ d ih =>
    intro i r h
    unfold ByteArray.toList.loop
    have hl : i < s.data.toList.length := by rw [data_length]; omega
    rw [if_pos (by omega), ih (i + 1) _ (by omega), List.drop_eq_getElem_cons hl]
    have hi : s.get! i = s.data.toList[i] := by
      have hs : i < s.data.size := by simpa using hl
      show s.data[i]! = _
      rw [getElem!_pos s.data i hs]
      simp
    rw [hi]
    simp
theorem toList_eq (s : ByteArray) : s.toList = s.data.toList := by
  unfold ByteArray.toList
  rw [toList_loop s s.size 0 [] (by omega)]
  simp
theorem bytes_ext {a b : ByteArray} (h : a.data.toList = b.data.toList) : a = b := by
  cases a with | mk x => cases b with | mk y => exact congrArg ByteArray.mk (Array.toList_inj.mp h)
theorem strOfNums_toList (xs : List Int) : (strOfNums xs).data.toList = xs.map fun x => UInt8.ofNat x.toNat := by
  simp [strOfNums]
theorem strOfNums_size (xs : List Int) : (strOfNums xs).size = xs.length := by
  rw [← data_length, strOfNums_toList, List.length_map]
/-- Bytes, as numbers. -/
def ints (l : List UInt8) : List Int := l.map fun b => (b.toNat : Int)
theorem str_ints (l : List UInt8) : (strOfNums (ints l)).data.toList = l := by
  rw [strOfNums_toList, ints, List.map_map]
  conv => rhs; rw [← List.map_id l]
  congr 1
  funext b
  simp
theorem ints_length (l : List UInt8) : (ints l).length = l.length := by unfold ints; rw [List.length_map]
theorem ints_snoc (l : List UInt8) (b : UInt8) : ints l ++ [(b.toNat : Int)] = ints (l ++ [b]) := by simp [ints]
theorem extract_list (s : ByteArray) (j : Nat) : (s.extract 0 j).data.toList = s.data.toList.take j := by
  simp [ByteArray.data_extract]
theorem bt_val (s : ByteArray) (i : Nat) (h : i < s.size) : ∃ x, s.data.toList[i]? = some x ∧ bt s (i : Int) = (x.toNat : Int) := by
  obtain ⟨x, rest, e1, _, e3⟩ := bt_get s i h
  refine ⟨x, ?_, e3⟩
  have := congrArg (fun l => l[0]?) e1
  simpa using this


end Go.Proofs.Ytnmafncghbkogaa.X
