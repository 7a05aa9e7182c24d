/- The walks of the tag's small checks: whether a list has a number that may not be; a list without its repetitions. -/
import Derived.Test.YtpbmcienlbdcbaaWMore
import Derived.Test.YtpbmcienlbdcbaaProg
import Derived.WalkKit
import Derived.BigQuiet
import Derived.Lib.Hide
import Derived.Laws.IdiomCopy
import Derived.Lib.SliceRun
import Derived.Lib.LazyBuf
namespace Go.Proofs.Ytpbmcienlbdcbaa.X
open Go.RowKit Go.Proofs.YtpbmcienlbdcbaaW.PrintWords Go.Proofs.YtpbmcienlbdcbaaW.PrintLast

/-- A number that may not be (a key). -/
def oddK (n : Int) : Bool := decide (n < 0) || decide (64 ≤ n)
theorem oddK_fn (x : Int) (w : World) : Calls Try.prog 43 #[.int .i64 x] w fun e w' => e = .returned (.bool (oddK x)) ∧ w = w' := by
  have hp : oddK x = (decide (x < 0) || decide (64 ≤ x)) := rfl
  by_cases h1 : x < 0
  · have d1 : decide (x < 0) = true := decide_eq_true h1
    rw [hp, d1]
    clear hp h1
    go_enter Try.func43, Try.ntmps43
    go_wp2
    go_ret
    exact ⟨rfl, rfl⟩
  · have d1 : decide (x < 0) = false := decide_eq_false h1
    obtain ⟨b2, d2⟩ : ∃ b, decide (64 ≤ x) = b := ⟨_, rfl⟩
    rw [hp, d1, d2]
    clear hp h1
    cases b2 <;> (go_enter Try.func43, Try.ntmps43; go_wp2; go_ret; exact ⟨rfl, rfl⟩)
theorem oddK_succ (l : List Int) (k : Nat) (h : k < l.length) : (l.take (k + 1)).any oddK = ((l.take k).any oddK || oddK (l.getD k 0)) := by
  rw [List.take_succ_eq_append_getElem h, List.any_append, List.getD_eq_getElem?_getD, List.getElem?_eq_getElem h]
  simp
theorem oddK_hit (l : List Int) (k : Nat) (h : k < l.length) (hb : oddK (l.getD k 0) = true) : l.any oddK = true := by
  rw [List.getD_eq_getElem?_getD, List.getElem?_eq_getElem h] at hb
  exact List.any_eq_true.mpr ⟨_, List.getElem_mem h, hb⟩
set_option maxHeartbeats 2000000 in
set_option maxRecDepth 100000 in
theorem oddK_index (A : Option Addr) (c : Nat) (l : List Int) (w : World) (h0 : ReadsOf (Value.int .i64) (0 : Int) w A l.length l) :
    Calls Try.prog 46 #[.slice A l.length c, .func (.func 43) #[] #[]] w fun e w' => ∃ r : Int, e = .returned (.int .i64 r) ∧ decide (r ≥ 0) = l.any oddK ∧ w = w' := by
  have H0 := Aside0.mk h0
  have hn := h0.2.1
  clear h0
  go_enter Try.func46, Try.ntmps46
  go_wp2
  go_loopw [5, 8] (fun _ i wr => ∃ k : Nat, k ≤ l.length ∧ i = .int .i64 k ∧ Aside0 ((l.take k).any oddK = false) ∧ w = wr)
    (fun _ i _ => l.length - (intOf i).toNat)
  case atStart => exact ⟨0, Nat.zero_le _, rfl, ⟨rfl⟩, rfl⟩
  case round =>
    obtain ⟨k, hk, rfl, HA, rfl⟩ := hrel
    by_cases hlt : k < l.length
    · obtain ⟨ad, rfl, hcs⟩ := H0.out.2.2 (by omega)
      have hcell := hcs k hlt
      clear hcs
      have HS := Aside0.mk (oddK_succ l k hlt)
      have HB := Aside0.mk (oddK_hit l k hlt)
      obtain ⟨x, hx⟩ : ∃ x, l.getD k 0 = x := ⟨_, rfl⟩
      rw [hx] at hcell HS HB
      clear hx
      cases hb : oddK x with
      | true =>
        go_wp2_with (go_at_call 43; refine (oddK_fn _ _).mono ?_; rintro e w' ⟨rfl, rfl⟩)
        go_ret
        refine ⟨k, rfl, ?_, rfl⟩
        rw [HB.out hb]
        exact decide_eq_true (by omega)
      | false =>
        go_wp2_with (go_at_call 43; refine (oddK_fn _ _).mono ?_; rintro e w' ⟨rfl, rfl⟩)
        go_roundw
        case rel => exact ⟨k + 1, by omega, by go_num, ⟨by rw [HS.out, HA.out, hb]; rfl⟩, trivial⟩
        case measure => simp [intOf]; omega
    · obtain rfl : k = l.length := by omega
      go_wp2
      go_ret
      refine ⟨-1, rfl, ?_, rfl⟩
      have := HA.out
      rw [List.take_length] at this
      rw [this]
      rfl
theorem oddK_contains (A : Option Addr) (c : Nat) (l : List Int) (w : World) (h0 : ReadsOf (Value.int .i64) (0 : Int) w A l.length l) :
    Calls Try.prog 36 #[.slice A l.length c, .func (.func 43) #[] #[]] w fun e w' => e = .returned (.bool (l.any oddK)) ∧ w = w' := by
  have H0 := Aside0.mk h0
  clear h0
  go_enter Try.func36, Try.ntmps36
  go_wp2_with (go_at_call 46; refine (oddK_index A c l _ H0.out).mono ?_; rintro e w' ⟨r, rfl, hr, rfl⟩)
  go_ret
  refine ⟨?_, rfl⟩
  rw [← hr]
  rfl

/-- A number that may not be (a value). -/
def oddV (n : Int) : Bool := decide (n < -1) || decide (512 ≤ n)
theorem oddV_fn (x : Int) (w : World) : Calls Try.prog 34 #[.int .i64 x] w fun e w' => e = .returned (.bool (oddV x)) ∧ w = w' := by
  have hp : oddV x = (decide (x < -1) || decide (512 ≤ x)) := rfl
  by_cases h1 : x < -1
  · have d1 : decide (x < -1) = true := decide_eq_true h1
    rw [hp, d1]
    clear hp h1
    go_enter Try.func34, Try.ntmps34
    go_wp2
    go_ret
    exact ⟨rfl, rfl⟩
  · have d1 : decide (x < -1) = false := decide_eq_false h1
    obtain ⟨b2, d2⟩ : ∃ b, decide (512 ≤ x) = b := ⟨_, rfl⟩
    rw [hp, d1, d2]
    clear hp h1
    cases b2 <;> (go_enter Try.func34, Try.ntmps34; go_wp2; go_ret; exact ⟨rfl, rfl⟩)
theorem oddV_succ (l : List Int) (k : Nat) (h : k < l.length) : (l.take (k + 1)).any oddV = ((l.take k).any oddV || oddV (l.getD k 0)) := by
  rw [List.take_succ_eq_append_getElem h, List.any_append, List.getD_eq_getElem?_getD, List.getElem?_eq_getElem h]
  simp
theorem oddV_hit (l : List Int) (k : Nat) (h : k < l.length) (hb : oddV (l.getD k 0) = true) : l.any oddV = true := by
  rw [List.getD_eq_getElem?_getD, List.getElem?_eq_getElem h] at hb
  exact List.any_eq_true.mpr ⟨_, List.getElem_mem h, hb⟩
set_option maxHeartbeats 2000000 in
set_option maxRecDepth 100000 in
theorem oddV_index (A : Option Addr) (c : Nat) (l : List Int) (w : World) (h0 : ReadsOf (Value.int .i64) (0 : Int) w A l.length l) :
    Calls Try.prog 46 #[.slice A l.length c, .func (.func 34) #[] #[]] w fun e w' => ∃ r : Int, e = .returned (.int .i64 r) ∧ decide (r ≥ 0) = l.any oddV ∧ w = w' := by
  have H0 := Aside0.mk h0
  have hn := h0.2.1
  clear h0
  go_enter Try.func46, Try.ntmps46
  go_wp2
  go_loopw [5, 8] (fun _ i wr => ∃ k : Nat, k ≤ l.length ∧ i = .int .i64 k ∧ Aside0 ((l.take k).any oddV = false) ∧ w = wr)
    (fun _ i _ => l.length - (intOf i).toNat)
  case atStart => exact ⟨0, Nat.zero_le _, rfl, ⟨rfl⟩, rfl⟩
  case round =>
    obtain ⟨k, hk, rfl, HA, rfl⟩ := hrel
    by_cases hlt : k < l.length
    · obtain ⟨ad, rfl, hcs⟩ := H0.out.2.2 (by omega)
      have hcell := hcs k hlt
      clear hcs
      have HS := Aside0.mk (oddV_succ l k hlt)
      have HB := Aside0.mk (oddV_hit l k hlt)
      obtain ⟨x, hx⟩ : ∃ x, l.getD k 0 = x := ⟨_, rfl⟩
      rw [hx] at hcell HS HB
      clear hx
      cases hb : oddV x with
      | true =>
        go_wp2_with (go_at_call 34; refine (oddV_fn _ _).mono ?_; rintro e w' ⟨rfl, rfl⟩)
        go_ret
        refine ⟨k, rfl, ?_, rfl⟩
        rw [HB.out hb]
        exact decide_eq_true (by omega)
      | false =>
        go_wp2_with (go_at_call 34; refine (oddV_fn _ _).mono ?_; rintro e w' ⟨rfl, rfl⟩)
        go_roundw
        case rel => exact ⟨k + 1, by omega, by go_num, ⟨by rw [HS.out, HA.out, hb]; rfl⟩, trivial⟩
        case measure => simp [intOf]; omega
    · obtain rfl : k = l.length := by omega
      go_wp2
      go_ret
      refine ⟨-1, rfl, ?_, rfl⟩
      have := HA.out
      rw [List.take_length] at this
      rw [this]
      rfl
theorem oddV_contains (A : Option Addr) (c : Nat) (l : List Int) (w : World) (h0 : ReadsOf (Value.int .i64) (0 : Int) w A l.length l) :
    Calls Try.prog 36 #[.slice A l.length c, .func (.func 34) #[] #[]] w fun e w' => e = .returned (.bool (l.any oddV)) ∧ w = w' := by
  have H0 := Aside0.mk h0
  clear h0
  go_enter Try.func36, Try.ntmps36
  go_wp2_with (go_at_call 46; refine (oddV_index A c l _ H0.out).mono ?_; rintro e w' ⟨r, rfl, hr, rfl⟩)
  go_ret
  refine ⟨?_, rfl⟩
  rw [← hr]
  rfl

end Go.Proofs.Ytpbmcienlbdcbaa.X
