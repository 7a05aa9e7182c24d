/- What a page is, in plain words. -/
import Derived.Test.YtpbmcienlbdcbaaLookAll
import Derived.Test.YtpbmcienlbdcbaaPAllx13
import Derived.Test.YtpbmcienlbdcbaaPAllx18
namespace Go.Proofs.Ytpbmcienlbdcbaa.X
open Go.RowKit Go.Proofs.Ytpbmcienlbdcbaa.PAll Go.Proofs.YtpbmcienlbdcbaaW.PrintWords Go.Proofs.YtpbmcienlbdcbaaW.PrintLast Go.Proofs.YtpbmcienlbdcbaaW.PrintMore

def lookV (w : Bool) (d t : ByteArray) : Int × Int × Int × List Int × List Int :=
  if w = true then (if (decV t.data.toList d).2.2.2.2 = 0 then (1, (decV t.data.toList d).1, (decV t.data.toList d).2.1, (decV t.data.toList d).2.2.1, (decV t.data.toList d).2.2.2.1) else (2, 0, 0, [], [])) else (0, 0, 0, [], [])
theorem look_ev (w : Bool) (d t : ByteArray) (ht : t.size ≤ 9223372036854775807) : Ev (fun k => look_Look.f k w d t) (lookV w d t) := by
  unfold look_Look.f lookV
  have h1 := dec_ev t.data.toList (by rw [data_length]; exact ht) d
  rw [ofL_of] at h1
  cases w with
  | false => exact Ev.ite_neg (by simp) (Ev.now _)
  | true =>
    refine Ev.ite_pos rfl (Ev.bind h1 ?_)
    show Ev _ (if (decV t.data.toList d).2.2.2.2 = 0 then (1, (decV t.data.toList d).1, (decV t.data.toList d).2.1, (decV t.data.toList d).2.2.1, (decV t.data.toList d).2.2.2.1) else (2, 0, 0, [], []))
    by_cases h : (decV t.data.toList d).2.2.2.2 = 0
    · refine Ev.ite_pos h ?_
      rw [if_pos h]
      exact Ev.now _
    · refine Ev.ite_neg h ?_
      rw [if_neg h]
      exact Ev.now _
theorem rlook_ev (w : Bool) (d t : ByteArray) (ht : t.size ≤ 9223372036854775807) : Ev (fun k => clinkerref04_Look.f k w d t) (lookV w d t) := by
  unfold clinkerref04_Look.f lookV
  have h1 := rdec_ev t.data.toList (by rw [data_length]; exact ht) d
  rw [ofL_of] at h1
  cases w with
  | false => exact Ev.ite_neg (by simp) (Ev.now _)
  | true =>
    refine Ev.ite_pos rfl (Ev.bind h1 ?_)
    show Ev _ (if (decV t.data.toList d).2.2.2.2 = 0 then (1, (decV t.data.toList d).1, (decV t.data.toList d).2.1, (decV t.data.toList d).2.2.1, (decV t.data.toList d).2.2.2.1) else (2, 0, 0, [], []))
    by_cases h : (decV t.data.toList d).2.2.2.2 = 0
    · refine Ev.ite_pos h ?_
      rw [if_pos h]
      exact Ev.now _
    · refine Ev.ite_neg h ?_
      rw [if_neg h]
      exact Ev.now _
theorem decV_small (t : List UInt8) (d : ByteArray) : (decV t d).2.2.1.length ≤ 1099511627776 ∧ (decV t d).2.2.2.1.length ≤ 1099511627776 := by
  unfold decV
  cases h : readV t with
  | none => simp
  | some p =>
    obtain ⟨a, b, l, m⟩ := p
    have := read_small h
    dsimp only
    by_cases h2 : (encV a b l m d).2 = 0
    · rw [if_pos h2]
      by_cases h3 : (encV a b l m d).1.toList = t
      · rw [if_pos h3]; exact this
      · rw [if_neg h3]; simp
    · rw [if_neg h2]; simp
theorem lookV_small (w : Bool) (d t : ByteArray) : (lookV w d t).2.2.2.1.length ≤ 1099511627776 ∧ (lookV w d t).2.2.2.2.length ≤ 1099511627776 := by
  have h0 := decV_small t.data.toList d
  unfold lookV
  split
  · split
    · exact h0
    · simp
  · simp
/-- The comparison with which both statements end. -/
theorem look_same (w : Bool) (d t : ByteArray) (ht : t.size ≤ 9223372036854775807) : Ev (fun k => (look_Look.f k w d t).bind fun bt385 => ((clinkerref04_Look.f k w d t).bind fun bt395 => ((clinkerlaw04_awake.f).bind fun t405 => (if t405 = true then (if bt385.1 = bt395.1 then ((clinkerref03_Same.f k bt385.2.1 bt385.2.2.1 bt385.2.2.2.1 bt385.2.2.2.2 bt395.2.1 bt395.2.2.1 bt395.2.2.2.1 bt395.2.2.2.2).bind fun t406 => (some t406)) else (some false)) else (some false))))) true := by
  refine Ev.bind (look_ev w d t ht) (Ev.bind (rlook_ev w d t ht) ?_)
  have hs := lookV_small w d t
  generalize lookV w d t = r at hs
  rw [show clinkerlaw04_awake.f = some true from rfl]
  refine Ev.pure_ (Ev.ite_pos rfl (Ev.ite_pos rfl (Ev.bind (rsame_ev _ _ _ _ _ _ _ _ (by omega) (by omega)) ?_)))
  rw [decide_eq_true ⟨rfl, rfl, rfl, rfl⟩]
  exact Ev.now true
theorem rmake_ev (d : ByteArray) (a b : Int) (l m : List Int) (hr : rightV a b l m = true) (hd : d.size ≤ 16) : Ev (fun k => clinkerref04_Make.f k d a b l m) (true, d, ofL (tagL a b l m d.data.toList), 0) := by
  obtain ⟨h1, h2, h3, h4, h5, h6, h7⟩ := right_facts hr
  unfold clinkerref04_Make.f
  refine Ev.bind (renc_ev a b l m d (by omega) (by omega)) ?_
  rw [enc_ok hr d hd]
  exact Ev.ite_pos rfl (Ev.now _)
end Go.Proofs.Ytpbmcienlbdcbaa.X
