/- states.State, walked: what a block is. -/
import Derived.Test.YtnbhkogjamdfhaaChipAll
namespace Go.Proofs.Ytnbhkogjamdfhaa.X
open Go.RowKit Go.Proofs.Ytnbhkogjamdfhaa.PAll Go.Proofs.YtnbhkogjamdfhaaW.PrintWords Go.Proofs.YtnbhkogjamdfhaaW.PrintLast Go.Proofs.YtnbhkogjamdfhaaW.PrintMore
set_option linter.unusedVariables false
set_option linter.unusedSimpArgs false
/-- Is a page of these written? -/
def wrB (ps : List Pg) : Bool := ps.any fun p => p.f0
/-- What a block is. -/
def staB (x : Blk) (isOpen : Bool) : Int := if x.f3 = true then 3 else if isOpen = true ∧ 0 ≤ x.f1 ∧ x.f1 < x.f0.length then 1 else if x.f1 ≠ 0 ∨ wrB x.f0 = true then 2 else 0
def staV (l : List Blk) (open_ b : Int) : Int := if 0 ≤ b ∧ b < l.length then staB (rdB l b) (decide (b = open_)) else 3
theorem staB_le (x : Blk) (o : Bool) : 0 ≤ staB x o ∧ staB x o ≤ 3 := by
  unfold staB
  split
  · omega
  · split
    · omega
    · split <;> omega
theorem wr_fn (p : Pg) (w : World) : Calls Try.prog 20 #[.agg #[.bool p.f0, .string p.f1, .string p.f2]] w fun e w' => e = .returned (.bool p.f0) ∧ Below w.heap.size w w' := by
  go_enter Try.func20, Try.ntmps20
  go_wp2
  go_ret
  exact ⟨rfl, (Below.refl _ w).alloc (Nat.le_refl _) _⟩
theorem wrB_succ (ps : List Pg) (k : Nat) (h : k < ps.length) : wrB (ps.take (k + 1)) = (wrB (ps.take k) || (rd_T42 ps (k : Int)).f0) := by
  show _ = (_ || (ps.getD (k : Int).toNat zP).f0)
  unfold wrB
  rw [List.take_succ_eq_append_getElem h, List.any_append, List.getD_eq_getElem?_getD, Int.toNat_natCast, List.getElem?_eq_getElem h]
  simp
theorem wrB_hit (ps : List Pg) (k : Nat) (h : k < ps.length) (hb : (rd_T42 ps (k : Int)).f0 = true) : wrB ps = true := by
  have hb : (ps.getD (k : Int).toNat zP).f0 = true := hb
  rw [List.getD_eq_getElem?_getD, Int.toNat_natCast, List.getElem?_eq_getElem h] at hb
  exact List.any_eq_true.mpr ⟨_, List.getElem_mem h, hb⟩
set_option maxHeartbeats 2000000 in
set_option maxRecDepth 100000 in
theorem wr_index (A : Option Addr) (c : Nat) (ps : List Pg) (w : World) (h0 : Kd.C kP w A ps.length ps) :
    Calls Try.prog 27 #[.slice A ps.length c, .func (.func 20) #[] #[]] w fun e w' => ∃ r : Int, e = .returned (.int .i64 r) ∧ decide (r ≥ 0) = wrB ps ∧ Below w.heap.size w w' := by
  have H0 := Aside0.mk h0
  have hn : ps.length ≤ 9223372036854775807 := h0.2.1
  clear h0
  go_enter Try.func27, Try.ntmps27
  go_wp2
  go_loopw [5, 8] (fun _ i wr => ∃ k : Nat, k ≤ ps.length ∧ i = .int .i64 k ∧ Aside0 (wrB (ps.take k) = false) ∧ Below w.heap.size w wr)
    (fun _ i _ => ps.length - (intOf i).toNat)
  case atStart => exact ⟨0, Nat.zero_le _, rfl, ⟨rfl⟩, Below.refl _ _⟩
  case round =>
    obtain ⟨k, hk, rfl, HA, hB⟩ := hrel
    by_cases hlt : k < ps.length
    · obtain ⟨ad, rfl, z0, z1, z2⟩ := at_T42 (Kd.C_below H0.out hB) (k : Int) (by omega) (by omega)
      have HS := Aside0.mk (wrB_succ ps k hlt)
      have HH := Aside0.mk (wrB_hit ps k hlt)
      obtain ⟨x, hx⟩ : ∃ x, rd_T42 ps (k : Int) = x := ⟨_, rfl⟩
      rw [hx] at z0 z1 z2 HS HH
      rw [Int.toNat_natCast] at z0 z1 z2
      clear hx
      have HB := Aside0.mk hB
      clear hB
      cases hb : x.f0 with
      | true =>
        rw [hb] at z0
        go_wp2_with (go_at_call 20; refine (Calls.mono (R := fun e w' => e = .returned (.bool true) ∧ Below wr.heap.size wr w') (by have := wr_fn x wr; rw [hb] at this; exact this) ?_); rintro e w1 ⟨rfl, hb1⟩; have HB1 := Aside0.mk hb1; clear hb1)
        go_ret
        refine ⟨k, rfl, ?_, below_step HB.out HB1.out⟩
        rw [HH.out hb]
        exact decide_eq_true (by omega)
      | false =>
        rw [hb] at z0
        go_wp2_with (go_at_call 20; refine (Calls.mono (R := fun e w' => e = .returned (.bool false) ∧ Below wr.heap.size wr w') (by have := wr_fn x wr; rw [hb] at this; exact this) ?_); rintro e w1 ⟨rfl, hb1⟩; have HB1 := Aside0.mk hb1; clear hb1)
        go_roundw
        case rel => exact ⟨k + 1, by omega, by go_num, ⟨by rw [HS.out, HA.out, hb]; rfl⟩, below_step HB.out HB1.out⟩
        case measure => simp [intOf]; omega
    · obtain rfl : k = ps.length := by omega
      have HB := Aside0.mk hB
      clear hB
      go_wp2
      go_ret
      refine ⟨-1, rfl, ?_, HB.out⟩
      have := HA.out
      rw [List.take_length] at this
      rw [this]
      rfl
theorem wr_contains (A : Option Addr) (c : Nat) (ps : List Pg) (w : World) (h0 : Kd.C kP w A ps.length ps) :
    Calls Try.prog 19 #[.slice A ps.length c, .func (.func 20) #[] #[]] w fun e w' => e = .returned (.bool (wrB ps)) ∧ Below w.heap.size w w' := by
  have H0 := Aside0.mk h0
  clear h0
  go_enter Try.func19, Try.ntmps19
  go_wp2_with (go_at_call 27; refine (wr_index A c ps _ H0.out).mono ?_; rintro e w' ⟨r, rfl, hr, hb1⟩; have HB1 := Aside0.mk hb1; clear hb1)
  go_ret
  refine ⟨?_, HB1.out⟩
  rw [← hr]
  rfl
set_option maxHeartbeats 4000000 in
set_option maxRecDepth 100000 in
theorem state_any (A : Option Addr) (c : Nat) (l : List Blk) (br off : Bool) (ops open_ b : Int) (w : World) (hC : Kd.C kB w A l.length l) :
    Calls Try.prog 10 #[.agg #[.slice A l.length c, .bool br, .bool off, .int .i64 ops], .int .i64 open_, .int .i64 b] w fun e w' => e = .returned (.int .i64 (staV l open_ b)) ∧ Below w.heap.size w w' := by
  have hlm : l.length ≤ 9223372036854775807 := hC.2.1
  have hB0 : Below w.heap.size w (w.alloc (.cells #[.slice A l.length c, .bool br, .bool off, .int .i64 ops] 26)) := (Below.refl _ w).alloc (Nat.le_refl _) _
  by_cases h0 : b < 0
  · rw [show staV l open_ b = 3 by unfold staV; rw [if_neg (by omega)]]
    clear hC
    go_enter Try.func10, Try.ntmps10
    go_wp2
    go_ret
    exact ⟨rfl, hB0⟩
  have h0 : 0 ≤ b := by omega
  by_cases h1 : (l.length : Int) ≤ b
  · rw [show staV l open_ b = 3 by unfold staV; rw [if_neg (by omega)]]
    clear hC
    go_enter Try.func10, Try.ntmps10
    go_wp2
    go_ret
    exact ⟨rfl, hB0⟩
  have h1 : b < (l.length : Int) := by omega
  rw [show staV l open_ b = staB (rdB l b) (decide (b = open_)) by unfold staV; rw [if_pos ⟨h0, h1⟩]]
  obtain ⟨ad, A0, c0, rfl, z0, z1, z2, z3, _, hP⟩ := at_T45 (Kd.C_below hC hB0) b h0 h1
  obtain ⟨x, hx⟩ : ∃ x, rd_T45 l b = x := ⟨_, rfl⟩
  rw [hx] at z0 z1 z2 z3 hP
  rw [show rdB l b = x from hx]
  have hpm : x.f0.length ≤ 9223372036854775807 := hP.2.1
  have HP := Aside0.mk hP
  clear hC hx hP
  have HBW := Aside0.mk (hB0.alloc hB0.size (.cells #[.slice A0 x.f0.length c0, .int .i64 x.f1, .int .i64 x.f2, .bool x.f3] 45))
  have HBP := Aside0.mk ((Below.refl (w.alloc (.cells #[.slice (some ad) l.length c, .bool br, .bool off, .int .i64 ops] 26)).heap.size (w.alloc (.cells #[.slice (some ad) l.length c, .bool br, .bool off, .int .i64 ops] 26))).alloc (Nat.le_refl _) (.cells #[.slice A0 x.f0.length c0, .int .i64 x.f1, .int .i64 x.f2, .bool x.f3] 45))
  clear hB0
  cases h3 : x.f3 with
  | true =>
    rw [show staB x (decide (b = open_)) = 3 by unfold staB; rw [if_pos h3]]
    rw [h3] at z3 HBW
    clear h3 HBP
    go_enter Try.func10, Try.ntmps10
    go_wp2
    go_ret
    exact ⟨rfl, HBW.out⟩
  | false =>
    rw [h3] at z3 HBW HBP
    have W2 : ∀ w2, Below w.heap.size w w2 → True := fun _ _ => trivial
    by_cases ho : b = open_ ∧ 0 ≤ x.f1 ∧ x.f1 < x.f0.length
    · obtain ⟨rfl, q0, q1⟩ := ho
      rw [show staB x (decide (b = b)) = 1 by unfold staB; rw [if_neg (by rw [h3]; simp), if_pos ⟨by simp, q0, q1⟩]]
      clear h3 HBP
      go_enter Try.func10, Try.ntmps10
      go_wp2
      go_ret
      exact ⟨rfl, HBW.out⟩
    · have hno : ¬ (decide (b = open_) = true ∧ 0 ≤ x.f1 ∧ x.f1 < x.f0.length) := fun h => ho ⟨of_decide_eq_true h.1, h.2⟩
      by_cases hz : x.f1 = 0
      · rw [show staB x (decide (b = open_)) = (if wrB x.f0 = true then 2 else 0) by unfold staB; rw [if_neg (by rw [h3]; simp), if_neg hno]; cases wrB x.f0 <;> simp [hz]]
        clear hno h3
        cases hw : wrB x.f0 <;> (
          by_cases hb : b = open_
          · subst hb
            have q1 : ¬ (x.f1 < (x.f0.length : Int)) := fun h => ho ⟨rfl, by omega, h⟩
            rw [hz] at z1 q1
            rw [hz] at HBW HBP
            clear ho
            go_enter Try.func10, Try.ntmps10
            go_wp2_with (go_at_call 19; refine (wr_contains A0 c0 x.f0 _ (Kd.C_below HP.out HBP.out)).mono ?_; rintro e w2 ⟨rfl, hb2⟩; rw [hw]; have HB2 := Aside0.mk (below_step HBW.out hb2); clear hb2)
            go_ret
            exact ⟨rfl, HB2.out⟩
          · rw [hz] at z1
            rw [hz] at HBW HBP
            clear ho
            go_enter Try.func10, Try.ntmps10
            go_wp2_with (go_at_call 19; refine (wr_contains A0 c0 x.f0 _ (Kd.C_below HP.out HBP.out)).mono ?_; rintro e w2 ⟨rfl, hb2⟩; rw [hw]; have HB2 := Aside0.mk (below_step HBW.out hb2); clear hb2)
            go_ret
            exact ⟨rfl, HB2.out⟩)
      · rw [show staB x (decide (b = open_)) = 2 by unfold staB; rw [if_neg (by rw [h3]; simp), if_neg hno, if_pos (.inl hz)]]
        clear hno h3 HBP
        by_cases hb : b = open_
        · subst hb
          by_cases q0 : 0 ≤ x.f1
          · have q1 : ¬ (x.f1 < (x.f0.length : Int)) := fun h => ho ⟨rfl, q0, h⟩
            clear ho
            go_enter Try.func10, Try.ntmps10
            go_wp2
            go_ret
            exact ⟨rfl, HBW.out⟩
          · clear ho
            go_enter Try.func10, Try.ntmps10
            go_wp2
            go_ret
            exact ⟨rfl, HBW.out⟩
        · clear ho
          go_enter Try.func10, Try.ntmps10
          go_wp2
          go_ret
          exact ⟨rfl, HBW.out⟩
end Go.Proofs.Ytnbhkogjamdfhaa.X
