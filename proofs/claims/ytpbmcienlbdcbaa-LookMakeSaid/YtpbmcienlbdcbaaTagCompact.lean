/- The walk of the library's Compact: a list without its repetitions. -/
import Derived.Test.YtpbmcienlbdcbaaWMore
import Derived.Test.YtpbmcienlbdcbaaProg
import Derived.WalkKit
import Derived.BigQuiet
import Derived.Lib.Hide
import Derived.Laws.IdiomCopy
import Derived.Lib.SliceRun
import Derived.Lib.LazyBuf
namespace Go.Proofs.Ytpbmcienlbdcbaa.X
open Go.RowKit Go.Proofs.YtpbmcienlbdcbaaW.PrintWords Go.Proofs.YtpbmcienlbdcbaaW.PrintLast

section
variable {e base n cap g : Nat} {W : World} {ok : Nat → Prop} {v : Value} {xs : List Int}
theorem R_some (h : Kd.R (Kd.int .i64) e W base ok v xs) (hp : 0 < xs.length) : ∃ g cap, v = .slice (some ⟨g, 0, none⟩) xs.length cap ∧ base ≤ g ∧ xs.length ≤ cap := by
  have ho := Kd.own_of_R (enc := (Value.int .i64)) (h1 := fun _ => rfl) h
  rcases ho.2 with ⟨_, hz⟩ | ⟨g, cap, cur, rfl, hg, _, hc, _⟩
  · omega
  · exact ⟨g, cap, rfl, hg, hc⟩
theorem R_cells (h : Kd.R (Kd.int .i64) e W base ok (.slice (some ⟨g, 0, none⟩) n cap) xs) : n = xs.length ∧ ∀ j, j < n → (W.cell? ⟨g, j, none⟩).isSome = true ∧ W.frozen? ⟨g, j, none⟩ = false := by
  have ho := Kd.own_of_R (enc := (Value.int .i64)) (h1 := fun _ => rfl) h
  rcases ho.2 with ⟨h1, hz⟩ | ⟨g', cap', cur, h1, hg, hh, hc, _, hs, _⟩
  · cases h1
  · cases h1
    refine ⟨rfl, fun j hj => ⟨?_, blk_frozen hh j⟩⟩
    rw [blk_cell hh j, Array.getElem?_eq_getElem (by omega)]
    rfl
end
theorem cut1 (g cap n : Nat) (first : Int) (h0 : 0 ≤ first) (h1 : first < n) (h2 : n ≤ cap) (hi : (Try.prog.info? 3).map (fun i => (i.zero, i.size, i.bytes)) = some (some (.int .i64 0), 1, 8)) : ∀ W : World,
    (Instr.slice 25 (.slice (some ⟨g, 0, none⟩) n cap) (some (.int .i64 first)) none none).run Try.prog W = .ok (.slice (some ⟨g, first.toNat, none⟩) (n - first.toNat) (cap - first.toNat)) W := by
  obtain ⟨i0, hi0, _, hsz, _⟩ := info_parts hi
  intro W
  rw [cut_from (P := Try.prog) 25 3 .i64 Try.underlying25 hi0 1 hsz (some ⟨g, 0, none⟩) n cap first h0 (by omega) W, if_neg (by omega)]
  simp [Addr.add]
  omega
theorem cut2 (g o cap n : Nat) (m : Int) (h0 : 0 ≤ m) (h1 : m ≤ n) (h2 : n ≤ cap) (hi : (Try.prog.info? 3).map (fun i => (i.zero, i.size, i.bytes)) = some (some (.int .i64 0), 1, 8)) : ∀ W : World,
    (Instr.slice 25 (.slice (some ⟨g, o, none⟩) n cap) none (some (.int .i64 m)) none).run Try.prog W = .ok (.slice (some ⟨g, o, none⟩) m.toNat cap) W := by
  obtain ⟨i0, hi0, _, hsz, _⟩ := info_parts hi
  exact cut_to (P := Try.prog) 25 3 .i64 Try.underlying25 hi0 (some ⟨g, o, none⟩) n cap m h0 h1 h2
theorem clear_run {e base cap g n o c1 : Nat} {W : World} {ok : Nat → Prop} {xs : List Int} (ty : TypeId) (m : Nat) (hR : Kd.R (Kd.int .i64) e W base ok (.slice (some ⟨g, 0, none⟩) n cap) xs) (hm : o + m ≤ n) :
    (Builtin.clear_ #[25] ty #[.slice (some ⟨g, o, none⟩) m c1]).run Try.prog W = .ok (.tuple #[]) (W.setCells g o ((List.replicate m (0 : Int)).map (Value.int .i64))) := by
  rcases Nat.eq_zero_or_pos m with rfl | hp
  · simp [Builtin.clear_, run_underlying Try.underlying25, World.setCells]
  · rw [List.map_replicate]
    exact Go.Lib.run_clear_slice (P := Try.prog) W 25 3 ty (.int .i64 0) Try.underlying25 (fun _ => by kernel_rfl) (by kernel_rfl) rfl g o m c1 hp (fun j hj => ((R_cells hR).2 (o + j) (by omega)).1) (fun j hj => ((R_cells hR).2 (o + j) (by omega)).2)

/-- No number stands behind its like, up to place k. -/
def noRep (l : List Int) : Nat → Bool
  | 0 => true
  | k + 1 => noRep l k && (k == 0 || l.getD k 0 != l.getD (k - 1) 0)
theorem noRep_step (l : List Int) (k : Nat) (hk : 1 ≤ k) : noRep l (k + 1) = (noRep l k && (l.getD k 0 != l.getD (k - 1) 0)) := by
  rw [noRep]
  have : (k == 0) = false := beq_eq_false_iff_ne.mpr (by omega)
  rw [this, Bool.false_or]
theorem noRep_le (l : List Int) {a b : Nat} (h : a ≤ b) (hf : noRep l a = false) : noRep l b = false := by
  induction b with
  | zero => have : a = 0 := by omega
            rw [this] at hf; exact hf
  | succ b ih =>
    by_cases h2 : a = b + 1
    · rw [h2] at hf; exact hf
    · rw [noRep, ih (by omega), Bool.false_and]
theorem noRep_small (l : List Int) (n : Nat) (h : n < 2) : noRep l n = true := by
  match n, h with
  | 0, _ => rfl
  | 1, _ => rfl
theorem info_int : (Try.prog.info? 3).map (fun i => (i.zero, i.size, i.bytes)) = some (some (.int .i64 0), 1, 8) := by kernel_rfl
set_option maxHeartbeats 4000000 in
set_option maxRecDepth 100000 in
theorem compact_any (g cap : Nat) (l : List Int) (n0 : Nat) (w : World) (hg : n0 ≤ g) (hR : Kd.R (Kd.int .i64) 3 w n0 (fun _ => True) (.slice (some ⟨g, 0, none⟩) l.length cap) l) (hcap : l.length ≤ cap) (hn : l.length ≤ 17592186044415) :
    Calls Try.prog 45 #[.slice (some ⟨g, 0, none⟩) l.length cap] w fun e w' => ∃ (A' : Option Addr) (m c' : Nat), e = .returned (.slice A' m c') ∧ ((m : Int) == (l.length : Int)) = noRep l l.length ∧ Below n0 w w' := by
  have H0 := Aside0.mk hR
  clear hR
  have HB := Aside0.mk (Below.refl n0 w)
  by_cases h2 : (l.length : Int) < 2
  · have hs := noRep_small l l.length (by omega)
    go_enter Try.func45, Try.ntmps45
    go_wp2
    go_ret
    exact ⟨_, _, _, rfl, by rw [hs]; simp, HB.out⟩
  obtain ⟨len, hlen⟩ : ∃ len, l.length = len := ⟨_, rfl⟩
  have HL := Aside0.mk hlen
  rw [hlen] at H0 h2 hcap hn ⊢
  clear hlen
  go_enter Try.func45, Try.ntmps45
  go_wp2
  go_loopw [3] (fun k wr => ∃ j : Nat, 1 ≤ j ∧ j ≤ len ∧ k = .int .i64 j ∧ Aside0 (noRep l j = true) ∧ Aside0 (Kd.R (Kd.int .i64) 3 wr n0 (fun _ => True) (.slice (some ⟨g, 0, none⟩) len cap) l) ∧ Aside0 (Below n0 w wr))
    (fun k _ => len - (intOf k).toNat)
  case atStart => exact ⟨1, by omega, by omega, rfl, ⟨rfl⟩, H0, HB⟩
  case round =>
    obtain ⟨j, hj1, hj, rfl, HA, HR, HW⟩ := hrel
    by_cases hlt : j < len
    · have c1 := (Kd.R_celln (0 : Int) HR.out (j : Int) (by omega) (by omega)).1
      have c2 := (Kd.R_celln (0 : Int) HR.out ((j - 1 : Nat) : Int) (by omega) (by omega)).1
      rw [Int.toNat_natCast] at c1 c2
      have HS := Aside0.mk (noRep_step l j hj1)
      have e1 : rdOf (0 : Int) l (j : Int) = l.getD j 0 := by simp [rdOf]
      have e2 : rdOf (0 : Int) l ((j - 1 : Nat) : Int) = l.getD (j - 1) 0 := by simp [rdOf]
      rw [e1] at c1
      rw [e2] at c2
      clear e1 e2
      obtain ⟨x, hx⟩ : ∃ x, l.getD j 0 = x := ⟨_, rfl⟩
      obtain ⟨y, hy⟩ : ∃ y, l.getD (j - 1) 0 = y := ⟨_, rfl⟩
      rw [hx] at c1 HS
      rw [hy] at c2 HS
      clear hx hy
      have hjm : wrap64 ((j : Int) - 1) = ((j - 1 : Nat) : Int) := by rw [show (j : Int) - 1 = ((j - 1 : Nat) : Int) by omega]; unfold wrap64; omega
      obtain ⟨b, hb⟩ : ∃ b, (x == y) = b := ⟨_, rfl⟩
      cases b with
      | false =>
        go_wp2
        go_quiet (fail)
        go_wp2
        refine ⟨⟨j + 1, by omega, by omega, by go_num, ⟨?_⟩, ⟨Kd.R_drewN HR.out _⟩, ⟨pw_below_drewN HW.out _⟩⟩, ?_⟩
        · rw [HS.out, HA.out]
          have : (x != y) = true := by rw [bne, hb]; rfl
          rw [this]; rfl
        · simp [intOf]; omega
      | true =>
        have HNF := Aside0.mk (show noRep l len = false from noRep_le l (show j + 1 ≤ len by omega) (by
          rw [HS.out]
          have : (x != y) = false := by rw [bne, hb]; rfl
          rw [this, Bool.and_false]))
        clear HS HA
        have hc1 := cut1 g cap len (j : Int) (by omega) (by omega) (by omega) info_int
        rw [Int.toNat_natCast] at hc1
        go_wp2
        go_quiet (fail)
        go_wp2
        go_loopw [3, 5] (fun k k2 wr => ∃ a b : Nat, 1 ≤ b ∧ b ≤ len - j ∧ j ≤ a ∧ a < j + b ∧ k = .int .i64 a ∧ k2 = .int .i64 b ∧ ∃ ys, Aside0 (Kd.R (Kd.int .i64) 3 wr n0 (fun _ => True) (.slice (some ⟨g, 0, none⟩) len cap) ys) ∧ Aside0 (Below n0 w wr))
          (fun _ k2 _ => len - (intOf k2).toNat)
        case atStart => exact ⟨j, 1, by omega, by omega, by omega, by omega, rfl, rfl, l, ⟨Kd.R_drewN HR.out _⟩, ⟨pw_below_drewN HW.out _⟩⟩
        case round =>
          clear HR HW c1 c2 hc1
          obtain ⟨a, b, hb1, hb2, ha1, ha2, rfl, rfl, ys, HR, HW⟩ := hrel
          by_cases hlb : b < len - j
          · have d1 := (Kd.R_celln (0 : Int) HR.out ((j + b : Nat) : Int) (by omega) (by omega)).1
            have d2 := (Kd.R_celln (0 : Int) HR.out ((j + (b - 1) : Nat) : Int) (by omega) (by omega)).1
            have d3 := Kd.R_celln (0 : Int) HR.out ((a : Nat) : Int) (by omega) (by omega)
            obtain ⟨d3, d4⟩ := d3
            rw [Int.toNat_natCast] at d1 d2 d3 d4
            obtain ⟨x, hx⟩ : ∃ x, rdOf (0 : Int) ys ((j + b : Nat) : Int) = x := ⟨_, rfl⟩
            obtain ⟨y, hy⟩ : ∃ y, rdOf (0 : Int) ys ((j + (b - 1) : Nat) : Int) = y := ⟨_, rfl⟩
            obtain ⟨z, hz⟩ : ∃ z, rdOf (0 : Int) ys (a : Int) = z := ⟨_, rfl⟩
            rw [hx] at d1
            rw [hy] at d2
            rw [hz] at d3
            clear hx hy hz
            have hbm : wrap64 ((b : Int) - 1) = ((b - 1 : Nat) : Int) := by rw [show (b : Int) - 1 = ((b - 1 : Nat) : Int) by omega]; unfold wrap64; omega
            obtain ⟨t, ht⟩ : ∃ t, (x != y) = t := ⟨_, rfl⟩
            cases t with
            | false =>
              go_wp2
              go_quiet (fail)
              go_wp2
              refine ⟨⟨a, b + 1, by omega, by omega, by omega, by omega, rfl, by go_num, ys, ⟨Kd.R_drewN HR.out _⟩, ⟨pw_below_drewN HW.out _⟩⟩, ?_⟩
              simp [intOf]; omega
            | true =>
              go_wp2
              go_quiet (fail)
              go_wp2
              refine ⟨⟨a + 1, b + 1, by omega, by omega, by omega, by omega, by go_num, by go_num, ys.set a x, ⟨?_⟩, ⟨(pw_below_drewN HW.out _).setCell hg _⟩⟩, ?_⟩
              · have hp := Kd.R_putn (Kd.R_drewN HR.out nq) (a : Int) x
                rw [Int.toNat_natCast] at hp
                exact hp
              · simp [intOf]; omega
          · obtain rfl : b = len - j := by omega
            have hc1 := cut1 g cap len (a : Int) (by omega) (by omega) (by omega) info_int
            have hc2 := cut2 g 0 cap len (a : Int) (by omega) (by omega) (by omega) info_int
            rw [Int.toNat_natCast] at hc1 hc2
            have hcl := clear_run (c1 := cap - a) 0 (len - a) HR.out (o := a) (by omega)
            obtain ⟨cs, hcs⟩ : ∃ cs, (List.replicate (len - a) (0 : Int)).map (Value.int .i64) = cs := ⟨_, rfl⟩
            rw [hcs] at hcl
            clear hcs
            have hbc := below_setCells hg cs a wr HW.out
            go_wp2
            go_ret
            refine ⟨_, _, _, rfl, ?_, hbc⟩
            rw [HNF.out]
            exact beq_eq_false_iff_ne.mpr (by omega)
    · obtain rfl : j = len := by omega
      go_wp2
      go_ret
      refine ⟨_, _, _, rfl, ?_, HW.out⟩
      rw [HA.out]; simp
end Go.Proofs.Ytpbmcienlbdcbaa.X
