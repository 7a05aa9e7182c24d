/- The walk of the tag's moved: numbers, each with something more. -/
import Derived.Test.YtpbmcienlbdcbaaTagKeys
namespace Go.Proofs.Ytpbmcienlbdcbaa.X
open Go.RowKit Go.Proofs.YtpbmcienlbdcbaaW.PrintWords Go.Proofs.YtpbmcienlbdcbaaW.PrintLast

/-- Each number with something more. -/
def addAll (d : Int) (l : List Int) : List Int := l.map fun x => wrap64 (x + d)
/-- The first k of them. -/
def addTo (d : Int) (l : List Int) (k : Nat) : List Int := addAll d (l.take k) ++ l.drop k
theorem addTo_length (d : Int) (l : List Int) (k : Nat) : (addTo d l k).length = l.length := by
  unfold addTo addAll
  rw [List.length_append, List.length_map, List.length_take, List.length_drop]
  omega
theorem addTo_get (d : Int) (l : List Int) (k : Nat) (h : k < l.length) : rdOf (0 : Int) (addTo d l k) (k : Int) = l.getD k 0 := by
  have : (addTo d l k)[k]? = l[k]? := by
    unfold addTo addAll
    rw [List.getElem?_append_right (by rw [List.length_map, List.length_take]; omega), List.length_map, List.length_take, List.getElem?_drop]
    congr 1
    omega
  simp [rdOf, List.getD_eq_getElem?_getD, this]
theorem addTo_set (d : Int) (l : List Int) (k : Nat) (h : k < l.length) : (addTo d l k).set k (wrap64 (l.getD k 0 + d)) = addTo d l (k + 1) := by
  unfold addTo addAll
  rw [List.set_append_right _ _ (by rw [List.length_map, List.length_take]; omega), List.length_map, List.length_take, List.drop_eq_getElem_cons h, show k - min k l.length = 0 by omega, List.set_cons_zero, List.take_succ_eq_append_getElem h, List.map_append, List.append_assoc, List.getD_eq_getElem?_getD, List.getElem?_eq_getElem h]
  rfl
set_option maxHeartbeats 4000000 in
set_option maxRecDepth 100000 in
theorem moved_any (CL : ∀ (A0 : Option Addr) (c0 : Nat) (l0 : List Int) (w : World), Kd.C (Kd.int .i64) w A0 l0.length l0 → l0.length ≤ c0 → l0.length ≤ 17592186044415 →
      Calls Try.prog 37 #[.slice A0 l0.length c0] w fun e w' => ∃ v0_ : Value, e = .returned (v0_) ∧ Kd.R (Kd.int .i64) 3 w' w.heap.size (fun _ => True) v0_ l0 ∧ Below w.heap.size w w')
    (A : Option Addr) (c : Nat) (l : List Int) (d : Int) (w : World) (hC : Kd.C (Kd.int .i64) w A l.length l) (hc : l.length ≤ c) (hn : l.length ≤ 17592186044415) :
    Calls Try.prog 23 #[.slice A l.length c, .int .i64 d] w fun e w' => ∃ v0_ : Value, e = .returned (v0_) ∧ Kd.R (Kd.int .i64) 3 w' w.heap.size (fun _ => True) v0_ (addAll d l) ∧ Below w.heap.size w w' := by
  have CL := Aside0.mk (CL A c l w hC hc hn)
  clear hC
  rcases Nat.eq_zero_or_pos l.length with hz | hpos
  · have CZ := Aside0.mk (fun (v : Value) (W : World) (h : Kd.R (Kd.int .i64) 3 W w.heap.size (fun _ => True) v l) => (show ∃ A' c', v = .slice A' 0 c' by obtain ⟨A', c', hv⟩ := Kd.R_slice h; rw [hz] at hv; exact ⟨A', c', hv⟩))
    have HZ := Aside0.mk (show addAll d l = l by rw [List.eq_nil_of_length_eq_zero hz]; rfl)
    clear hz
    rw [HZ.out]
    go_enter Try.func23, Try.ntmps23
    go_wp2_with (go_at_call 37; refine CL.out.mono ?_; rintro e w2 ⟨v, rfl, hv, hb2⟩; have HB2 := Aside0.mk hb2; have HV := Aside0.mk hv; clear hb2 hv; obtain ⟨A', c', rfl⟩ := CZ.out v w2 HV.out)
    go_loopw [10] (fun k wr => k = .int .i64 0 ∧ wr = w2) (fun _ _ => 0)
    case atStart => exact ⟨rfl, rfl⟩
    case round =>
      obtain ⟨rfl, rfl⟩ := hrel
      go_wp2
      go_ret
      exact ⟨_, rfl, HV.out, HB2.out⟩
  · have SM := Aside0.mk (fun (v : Value) (W : World) (h : Kd.R (Kd.int .i64) 3 W w.heap.size (fun _ => True) v l) => R_some h hpos)
    obtain ⟨len, hlen⟩ : ∃ len, l.length = len := ⟨_, rfl⟩
    have HL := Aside0.mk hlen
    rw [hlen] at SM hpos hn hc CL ⊢
    clear hlen
    go_enter Try.func23, Try.ntmps23
    go_wp2_with (go_at_call 37; refine CL.out.mono ?_; rintro e w2 ⟨v, rfl, hv, hb2⟩; have HB2 := Aside0.mk hb2; have HV := Aside0.mk hv; clear hb2 hv; obtain ⟨g, cap, rfl, hg, hcap⟩ := SM.out v w2 HV.out)
    go_loopw [10] (fun i wr => ∃ k : Nat, k ≤ len ∧ i = .int .i64 k ∧ Aside0 (Kd.R (Kd.int .i64) 3 wr w.heap.size (fun _ => True) (.slice (some ⟨g, 0, none⟩) len cap) (addTo d l k)) ∧ Aside0 (Below w.heap.size w wr))
      (fun i _ => len - (intOf i).toNat)
    case atStart => exact ⟨0, by omega, rfl, HV, HB2⟩
    case round =>
      clear HV HB2
      obtain ⟨k, hk, rfl, HV, HB2⟩ := hrel
      by_cases hlt : k < len
      · obtain ⟨c1, c2⟩ := Kd.R_celln (0 : Int) HV.out (k : Int) (by omega) (by omega)
        have hp := Kd.R_putn HV.out (k : Int) (wrap64 (l.getD k 0 + d))
        rw [addTo_get d l k (by rw [HL.out]; exact hlt)] at c1
        rw [Int.toNat_natCast] at c1 c2 hp
        rw [addTo_set d l k (by rw [HL.out]; exact hlt)] at hp
        have HP := Aside0.mk hp
        clear hp
        obtain ⟨x, hx⟩ : ∃ x, l.getD k 0 = x := ⟨_, rfl⟩
        rw [hx] at c1 HP
        clear hx
        obtain ⟨y, hy⟩ : ∃ y, wrap64 (x + d) = y := ⟨_, rfl⟩
        rw [hy] at HP
        go_wp2
        refine ⟨⟨k + 1, by omega, by go_num, HP, ⟨HB2.out.setCell hg _⟩⟩, by simp [intOf]; omega⟩
      · obtain rfl : k = len := by omega
        go_wp2
        go_ret
        have hf : addTo d l k = addAll d l := by
          unfold addTo
          rw [List.drop_eq_nil_of_le (by rw [HL.out]; exact Nat.le_refl _), List.append_nil, List.take_of_length_le (by rw [HL.out]; exact Nat.le_refl _)]
        rw [hf] at HV
        exact ⟨_, rfl, HV.out, HB2.out⟩
end Go.Proofs.Ytpbmcienlbdcbaa.X
