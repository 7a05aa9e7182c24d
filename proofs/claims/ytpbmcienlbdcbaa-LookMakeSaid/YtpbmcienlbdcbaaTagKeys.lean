/- The walks of the library's IsSorted and of the tag's check of its keys. -/
import Derived.Test.YtpbmcienlbdcbaaTagWalk
import Derived.Test.YtpbmcienlbdcbaaTagCompact
namespace Go.Proofs.Ytpbmcienlbdcbaa.X
open Go.RowKit Go.Proofs.YtpbmcienlbdcbaaW.PrintWords Go.Proofs.YtpbmcienlbdcbaaW.PrintLast

theorem less_any (a b : Int) (w : World) : Calls Try.prog 49 #[.int .i64 a, .int .i64 b] w fun e w' => e = .returned (.bool (decide (a < b))) ∧ w' = w := by
  have hn : ∀ (x : Int) (w : World), Calls Try.prog 51 #[.int .i64 x] w fun e w' => e = .returned (.bool false) ∧ w' = w := by
    intro x w
    have hx : (x != x) = false := by simp
    go_enter Try.func51, Try.ntmps51
    go_wp2
    go_ret
    exact ⟨rfl, rfl⟩
  go_enter Try.func49, Try.ntmps49
  go_wp2_with (go_at_call 51; refine (hn _ _).mono ?_; rintro e w' ⟨rfl, rfl⟩)
  go_ret
  exact ⟨rfl, rfl⟩

/-- No number behind a greater one, up to place k. -/
def srt (l : List Int) : Nat → Bool
  | 0 => true
  | k + 1 => srt l k && (k == 0 || !decide (l.getD k 0 < l.getD (k - 1) 0))
theorem srt_bad (l : List Int) {j n : Nat} (hj : 1 ≤ j) (hn : j < n) (hb : l.getD j 0 < l.getD (j - 1) 0) : srt l n = false := by
  induction n with
  | zero => omega
  | succ n ih =>
    rw [srt]
    by_cases h : j = n
    · subst h
      have : (j == 0) = false := beq_eq_false_iff_ne.mpr (by omega)
      rw [this, decide_eq_true hb]
      simp
    · rw [ih (by omega), Bool.false_and]
theorem srt_good (l : List Int) (n : Nat) (h : ∀ j, 1 ≤ j → j < n → ¬ l.getD j 0 < l.getD (j - 1) 0) : srt l n = true := by
  induction n with
  | zero => rfl
  | succ n ih =>
    rw [srt, ih (fun j h1 h2 => h j h1 (by omega)), Bool.true_and]
    by_cases h0 : n = 0
    · subst h0; rfl
    · rw [decide_eq_false (h n (by omega) (by omega))]; simp
set_option maxHeartbeats 4000000 in
set_option maxRecDepth 100000 in
theorem sorted_any (A : Option Addr) (c : Nat) (l : List Int) (w : World) (h0 : ReadsOf (Value.int .i64) (0 : Int) w A l.length l) :
    Calls Try.prog 44 #[.slice A l.length c] w fun e w' => e = .returned (.bool (srt l l.length)) ∧ ∃ m, w' = w.drewN m := by
  have H0 := Aside0.mk h0
  have hn := h0.2.1
  clear h0
  have hw : wrap64 ((l.length : Int) - 1) = (l.length : Int) - 1 := by unfold wrap64; omega
  go_enter Try.func44, Try.ntmps44
  go_wp2
  go_loopw [3] (fun i wr => ∃ k : Int, -1 ≤ k ∧ k < l.length ∧ i = .int .i64 k ∧ Aside0 (∀ j : Nat, k < (j : Int) → j < l.length → 1 ≤ j → ¬ l.getD j 0 < l.getD (j - 1) 0) ∧ Aside0 (∃ m, wr = w.drewN m))
    (fun i _ => (intOf i).toNat)
  case atStart => exact ⟨(l.length : Int) - 1, by omega, by omega, rfl, ⟨fun j h1 h2 h3 => by omega⟩, ⟨0, rfl⟩⟩
  case round =>
    obtain ⟨k, hk1, hk2, rfl, HA, HW⟩ := hrel
    by_cases hlt : 0 < k
    · obtain ⟨j, rfl⟩ : ∃ j : Nat, k = (j : Int) := ⟨k.toNat, by omega⟩
      obtain ⟨ad, rfl, hcs⟩ := H0.out.2.2 (by omega)
      have c1 : wr.cell? (ad.add j) = some (.int .i64 (l.getD j 0)) := by obtain ⟨m, rfl⟩ := HW.out; exact hcs j (by omega)
      have c2 : wr.cell? (ad.add (j - 1)) = some (.int .i64 (l.getD (j - 1) 0)) := by obtain ⟨m, rfl⟩ := HW.out; exact hcs (j - 1) (by omega)
      clear hcs
      obtain ⟨x, hx⟩ : ∃ x, l.getD j 0 = x := ⟨_, rfl⟩
      obtain ⟨y, hy⟩ : ∃ y, l.getD (j - 1) 0 = y := ⟨_, rfl⟩
      rw [hx] at c1
      rw [hy] at c2
      have HX := Aside0.mk hx
      have HY := Aside0.mk hy
      clear hx hy
      have hjm : wrap64 ((j : Int) - 1) = ((j - 1 : Nat) : Int) := by rw [show (j : Int) - 1 = ((j - 1 : Nat) : Int) by omega]; unfold wrap64; omega
      have hq : ∀ n, Calls Try.prog 49 #[.int .i64 x, .int .i64 y] (wr.drewN n) fun e w'' => e = .returned (.bool (decide (x < y))) ∧ ∃ q, w'' = wr.drewN q := fun n => Calls.quiet_of_same (less_any x y _)
      obtain ⟨b, hb⟩ : ∃ b, decide (x < y) = b := ⟨_, rfl⟩
      rw [hb] at hq
      cases b with
      | true =>
        go_wp2
        go_quiet (first | (go_at_call 49; exact hq _) | exact hq _)
        go_wp2
        go_ret
        refine ⟨?_, by obtain ⟨m, rfl⟩ := HW.out; exact ⟨_, World.drewN_drewN _ _ _⟩⟩
        rw [srt_bad l (j := j) (by omega) (by omega) (by rw [HX.out, HY.out]; exact of_decide_eq_true hb)]
        rfl
      | false =>
        go_wp2
        go_quiet (first | (go_at_call 49; exact hq _) | exact hq _)
        go_wp2
        refine ⟨⟨(j : Int) - 1, by omega, by omega, rfl, ⟨?_⟩, ⟨by obtain ⟨m, rfl⟩ := HW.out; exact ⟨_, World.drewN_drewN _ _ _⟩⟩⟩, by simp [intOf]; omega⟩
        intro i h1 h2 h3
        by_cases hi : i = j
        · subst hi
          rw [HX.out, HY.out]
          exact of_decide_eq_false hb
        · have := HA.out i (by omega) h2 h3
          omega
    · go_wp2
      go_ret
      refine ⟨?_, HW.out⟩
      rw [srt_good l l.length (fun j h1 h2 => by have := HA.out j (by omega) h2 h1; omega)]
      rfl

/-- May these be a record's keys? -/
def keysV (l : List Int) : Bool := decide (0 < (l.length : Int)) && decide ((l.length : Int) ≤ 8) && !l.any oddK && (srt l l.length && noRep l l.length)
theorem drew_below {n0 : Nat} {w w1 w2 : World} (h : Below n0 w w1) (h2 : ∃ m, w2 = w1.drewN m) : Below n0 w w2 := by
  obtain ⟨m, rfl⟩ := h2
  exact pw_below_drewN h m
theorem R_some1 {v : Value} {e base : Nat} {W : World} {ok : Nat → Prop} {xs : List Int} (h : Kd.R (Kd.int .i64) e W base ok v xs) : (xs = [] ∧ ∃ A c, v = .slice A 0 c) ∨ 0 < xs.length := by
  rcases xs with _ | ⟨x, l⟩
  · obtain ⟨A, c, rfl⟩ := Kd.R_slice h
    exact .inl ⟨rfl, A, c, rfl⟩
  · exact .inr (by simp)
theorem compact_small (A : Option Addr) (cap : Nat) (w : World) :
    Calls Try.prog 45 #[.slice A 0 cap] w fun e w' => ∃ (A' : Option Addr) (c' : Nat), e = .returned (.slice A' 0 c') ∧ w' = w := by
  go_enter Try.func45, Try.ntmps45
  go_wp2
  go_ret
  exact ⟨_, _, rfl, rfl⟩
set_option maxHeartbeats 4000000 in
set_option maxRecDepth 100000 in
theorem keys_any (CL : ∀ (A0 : Option Addr) (c0 : Nat) (l0 : List Int) (w : World), Kd.C (Kd.int .i64) w A0 l0.length l0 → l0.length ≤ c0 → l0.length ≤ 17592186044415 →
      Calls Try.prog 37 #[.slice A0 l0.length c0] w fun e w' => ∃ v0_ : Value, e = .returned (v0_) ∧ Kd.R (Kd.int .i64) 3 w' w.heap.size (fun _ => True) v0_ l0 ∧ Below w.heap.size w w')
    (A : Option Addr) (c : Nat) (l : List Int) (w : World) (hC : Kd.C (Kd.int .i64) w A l.length l) (hc : l.length ≤ c) (hn : l.length ≤ 17592186044415) :
    Calls Try.prog 35 #[.slice A l.length c] w fun e w' => e = .returned (.bool (keysV l)) ∧ Below w.heap.size w w' := by
  have hb0 := Below.refl w.heap.size w
  have RD := Aside0.mk (fun (W : World) (hb : Below w.heap.size w W) => Kd.reads_of_C (enc := Value.int .i64) (d := (0 : Int)) (h1 := fun _ => rfl) (Kd.C_below hC hb))
  have HC := Aside0.mk (fun (W : World) (hb : Below w.heap.size w W) => Kd.C_below hC hb)
  have HB0 := Aside0.mk hb0
  clear hC hb0
  obtain ⟨s, hs⟩ : ∃ s, srt l l.length = s := ⟨_, rfl⟩
  obtain ⟨o, ho⟩ : ∃ o, l.any oddK = o := ⟨_, rfl⟩
  obtain ⟨p, hp⟩ : ∃ p, noRep l l.length = p := ⟨_, rfl⟩
  obtain ⟨b1, h1⟩ : ∃ b, decide (0 < (l.length : Int)) = b := ⟨_, rfl⟩
  obtain ⟨b2, h2⟩ : ∃ b, decide ((l.length : Int) ≤ 8) = b := ⟨_, rfl⟩
  have HV : keysV l = (b1 && b2 && !o && (s && p)) := by unfold keysV; rw [hs, ho, hp, h1, h2]
  rw [HV]
  have HP := Aside0.mk hp
  have SR := Aside0.mk (fun (W : World) (h0 : ReadsOf (Value.int .i64) (0 : Int) W A l.length l) => sorted_any A c l W h0)
  have CT := Aside0.mk (fun (W : World) (h0 : ReadsOf (Value.int .i64) (0 : Int) W A l.length l) => oddK_contains A c l W h0)
  rw [hs] at SR
  rw [ho] at CT
  clear HV hs ho hp
  have CL := Aside0.mk (fun (W : World) (h : Kd.C (Kd.int .i64) W A l.length l) => CL A c l W h hc hn)
  cases s with
  | false =>
    cases b1 <;> cases b2 <;> cases o
    all_goals go_enter Try.func35, Try.ntmps35
    all_goals go_wp2_with (first
        | (go_at_call 44; refine (SR.out _ (RD.out _ HB0.out)).mono ?_; rintro e w1 ⟨rfl, hw1⟩; have HB1 := Aside0.mk (drew_below HB0.out hw1); clear hw1)
        | (go_at_call 36; refine (CT.out _ (RD.out _ HB1.out)).mono ?_; rintro e w2 ⟨rfl, rfl⟩))
    all_goals go_ret
    all_goals exact ⟨rfl, HB1.out⟩
  | true =>
    rcases Nat.eq_zero_or_pos l.length with hz | hpos
    · have CZ := Aside0.mk (fun (v : Value) (W : World) (h : Kd.R (Kd.int .i64) 3 W w.heap.size (fun _ => True) v l) => (show ∃ A' c', v = .slice A' 0 c' by obtain ⟨A', c', hv⟩ := Kd.R_slice h; rw [hz] at hv; exact ⟨A', c', hv⟩))
      obtain rfl : b1 = false := by rw [← h1]; exact decide_eq_false (by omega)
      have HN := Aside0.mk hz
      clear hz
      cases b2 <;> cases o
      all_goals go_enter Try.func35, Try.ntmps35
      all_goals go_wp2_with (first
          | (go_at_call 44; refine (SR.out _ (RD.out _ HB0.out)).mono ?_; rintro e w1 ⟨rfl, hw1⟩; have HB1 := Aside0.mk (drew_below HB0.out hw1); clear hw1)
          | (go_at_call 37; refine (CL.out _ (HC.out _ HB1.out)).mono ?_; rintro e w2 ⟨v, rfl, hv, hb2⟩; have HB2 := Aside0.mk (below_step HB1.out hb2); have HV := Aside0.mk (Kd.R_lower hv (below_size HB1.out)); clear hb2 hv; obtain ⟨A', c', rfl⟩ := CZ.out v w2 HV.out)
          | (go_at_call 45; refine (compact_small _ _ _).mono ?_; rintro e w3 ⟨A3, c3, rfl, rfl⟩)
          | (go_at_call 36; refine (CT.out _ (RD.out _ HB2.out)).mono ?_; rintro e w4 ⟨rfl, rfl⟩))
      all_goals go_ret
      all_goals first | exact ⟨rfl, HB2.out⟩ | (exfalso; have := HN.out; omega)
    · have CP := Aside0.mk (fun (g cap : Nat) (W : World) (hg : w.heap.size ≤ g) (h : Kd.R (Kd.int .i64) 3 W w.heap.size (fun _ => True) (.slice (some ⟨g, 0, none⟩) l.length cap) l) (hcap : l.length ≤ cap) => compact_any g cap l w.heap.size W hg h hcap hn)
      rw [HP.out] at CP
      obtain rfl : b1 = true := by rw [← h1]; exact decide_eq_true (by omega)
      cases b2 <;> cases o
      all_goals go_enter Try.func35, Try.ntmps35
      all_goals go_wp2_with (first
          | (go_at_call 44; refine (SR.out _ (RD.out _ HB0.out)).mono ?_; rintro e w1 ⟨rfl, hw1⟩; have HB1 := Aside0.mk (drew_below HB0.out hw1); clear hw1)
          | (go_at_call 37; refine (CL.out _ (HC.out _ HB1.out)).mono ?_; rintro e w2 ⟨v, rfl, hv, hb2⟩; have HB2 := Aside0.mk (below_step HB1.out hb2); have HV := Aside0.mk (Kd.R_lower hv (below_size HB1.out)); clear hb2 hv; obtain ⟨g, cap, rfl, hg, hcap⟩ := R_some HV.out hpos)
          | (go_at_call 45; refine (CP.out g cap _ hg HV.out hcap).mono ?_; rintro e w3 ⟨A3, m3, c3, rfl, hm3, hb3⟩; have HB3 := Aside0.mk (HB2.out.trans hb3); clear hb3)
          | (go_at_call 36; refine (CT.out _ (RD.out _ HB3.out)).mono ?_; rintro e w4 ⟨rfl, rfl⟩))
      all_goals go_ret
      all_goals exact ⟨rfl, HB3.out⟩
end Go.Proofs.Ytpbmcienlbdcbaa.X
