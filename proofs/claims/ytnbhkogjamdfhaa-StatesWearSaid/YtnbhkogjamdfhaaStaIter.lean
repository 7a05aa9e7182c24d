/- states.In, walked: the blocks in a state, one by one. -/
import Derived.Test.YtnbhkogjamdfhaaStaState
import Derived.RangeFuncBox
import Derived.RangeFuncLeaves
import Derived.RangeFuncBound
import Derived.RangeFuncCalls
import Derived.Shelf.Abstract
import Derived.Shelf.RegionOpen
import Derived.WalkKit
import Derived.OwnWalkIn
import Derived.TacticsInMore
import Derived.LoopNIn
import Derived.LoopIn
import Derived.Lib.Hide
namespace Go.Proofs.Ytnbhkogjamdfhaa.X
open Go.RowKit Go.Shelf Go.Proofs.Ytnbhkogjamdfhaa.PAll Go.Proofs.YtnbhkogjamdfhaaW.PrintWords Go.Proofs.YtnbhkogjamdfhaaW.PrintLast Go.Proofs.YtnbhkogjamdfhaaW.PrintMore
attribute [local go_sem] Oper.semAt_some
set_option linter.unusedVariables false
set_option linter.unusedSimpArgs false
/-- The blocks in a state, of the first k. -/
def inN (l : List Blk) (o s : Int) (k : Nat) : List Nat := (List.range k).filter fun (i : Nat) => staV l o i == s
theorem inN_hit {l : List Blk} {o s : Int} {k : Nat} (h : staV l o k = s) : inN l o s (k + 1) = inN l o s k ++ [k] := by
  unfold inN
  rw [List.range_succ, List.filter_append]
  simp [h]
theorem inN_miss {l : List Blk} {o s : Int} {k : Nat} (h : ¬ staV l o k = s) : inN l o s (k + 1) = inN l o s k := by
  unfold inN
  rw [List.range_succ, List.filter_append]
  simp [h]
theorem inN_length (l : List Blk) (o s : Int) (k : Nat) : (inN l o s k).length ≤ k := by
  unfold inN
  have := List.length_filter_le (fun (i : Nat) => staV l o i == s) (List.range k)
  rw [List.length_range] at this
  exact this
/-- What lies below n, but for block B, stands as it stood. -/
structure KpB (H B n : Nat) (W W' : World) : Prop where
  below : Below H W W'
  same : ∀ k, k < n → k ≠ B → W'.heap[k]? = W.heap[k]?
theorem KpB.refl {H B n : Nat} (W : World) : KpB H B n W W := ⟨Below.refl _ _, fun _ _ _ => rfl⟩
theorem KpB.trans {H B n : Nat} {W W1 W2 : World} (h : KpB H B n W W1) (h' : KpB H B n W1 W2) : KpB H B n W W2 :=
  ⟨h.below.trans h'.below, fun k hk hb => (h'.same k hk hb).trans (h.same k hk hb)⟩
theorem KpB.of_below {H B n : Nat} {W W' : World} (h : Below W.heap.size W W') (hH : H ≤ W.heap.size) (hn : n ≤ W.heap.size) : KpB H B n W W' :=
  ⟨⟨h.1, h.2, h.3, h.4, fun k hk => h.5 k (by omega)⟩, fun k hk _ => h.5 k (by omega)⟩
set_option maxRecDepth 100000 in
/-- states.In(c, open, state): each boxed; the function value captures the boxes. -/
theorem in_in (v : Value) (br off : Bool) (ops o s : Int) (w : World) :
    Calls Try.prog 16 #[.agg #[v, .bool br, .bool off, .int .i64 ops], .int .i64 o, .int .i64 s] w fun e w' => e = .returned (.func (.func 26) #[] #[.pointer (some ⟨w.heap.size, 0, none⟩), .pointer (some ⟨w.heap.size + 1, 0, none⟩), .pointer (some ⟨w.heap.size + 2, 0, none⟩)]) ∧ w' = ((w.alloc (.cells #[v, .bool br, .bool off, .int .i64 ops] 26)).alloc (.cells #[.int .i64 o] 3)).alloc (.cells #[.int .i64 s] 3) := by
  go_enter Try.func16, Try.ntmps16
  go_wp2
  go_ret
  exact ⟨rfl, rfl⟩
set_option maxRecDepth 100000 in
set_option maxHeartbeats 4000000 in
theorem in1_in (n lp H B B1 B2 B3 n₀ : Nat) (hHB : H ≤ B) (hB1 : B1 < n₀ ∧ B1 ≠ B) (hB2 : B2 < n₀ ∧ B2 ≠ B) (hB3 : B3 < n₀ ∧ B3 ≠ B) (A : Option Addr) (c : Nat) (l : List Blk) (br off : Bool) (ops o s : Int) (w0 : World) (hC : Kd.C kB w0 A l.length l) (hH : w0.heap.size ≤ H) (hHn : H ≤ n₀) (J Jx : List (Fin l.length) → World → Prop)
    (hJ : ∀ pre W W', J pre W → Below W.heap.size W W' → J pre W')
    (hY : ∀ pre x W, J pre W → pre.length < l.length → YieldAt Fence.wide n Try.prog lp #[.int .i64 (x : Fin l.length).val] W fun e W' =>
      (e = .returned (.bool true) ∧ J (pre ++ [x]) W' ∧ KpB H B n₀ W W') ∨ (e = .returned (.bool false) ∧ Jx (pre ++ [x]) W'))
    (W : World) (hb0 : Below w0.heap.size w0 W) (hn : n₀ ≤ W.heap.size) (hc1 : W.heap[B1]? = some (.cells #[.slice A l.length c, .bool br, .bool off, .int .i64 ops] 26 (0, 0))) (hc2 : W.heap[B2]? = some (.cells #[.int .i64 o] 3 (0, 0))) (hc3 : W.heap[B3]? = some (.cells #[.int .i64 s] 3 (0, 0))) (h0 : J [] W) :
    CallsIn Fence.wide (n + 1) Try.prog 26 #[.func (.yield lp) #[] #[], .pointer (some ⟨B1, 0, none⟩), .pointer (some ⟨B2, 0, none⟩), .pointer (some ⟨B3, 0, none⟩)] W fun e W' => (∃ v, e = .returned v) ∧
      ((∃ ys : List (Fin l.length), ys.map Fin.val = inN l o s l.length ∧ J ys W') ∨ (∃ pre : List (Fin l.length), (∃ k, k ≤ l.length ∧ pre.map Fin.val = inN l o s k) ∧ Jx pre W')) := by
  have hlm : l.length ≤ 9223372036854775807 := hC.2.1
  have HC := Aside0.mk hC
  have HB0 := Aside0.mk hb0
  have HK1 := Aside0.mk hc1
  have HK2 := Aside0.mk hc2
  have HK3 := Aside0.mk hc3
  have HJ := Aside0.mk hJ
  have HY := Aside0.mk hY
  obtain ⟨z0, z1, z2, z3, _⟩ := blk4 hc1
  clear hC hb0 hc1 hc2 hc3 hJ hY
  refine callsIn_of_wp Try.func26 rfl trivial ?_ rfl
  simp only [Try.ntmps26, List.size_toArray, List.length_cons, List.length_nil, Nat.reduceAdd, Nat.reduceSub, Array.replicate_succ, Array.replicate_zero, List.push_toArray, List.append_toArray, List.nil_append, List.cons_append]
  gi_wp2
  gi_loopw [5, 9] (fun b i wr => ∃ k : Nat, ∃ pre : List (Fin l.length), k ≤ l.length ∧ i = .int .i64 k ∧ pre.map Fin.val = inN l o s k ∧ J pre wr ∧ KpB H B n₀ W wr ∧ n₀ ≤ wr.heap.size)
    (fun _ i _ => l.length - (intOf i).toNat)
  case atStart => exact ⟨0, [], Nat.zero_le _, rfl, rfl, h0, KpB.refl _, hn⟩
  case round =>
    obtain ⟨k, pre, hk, rfl, hpre, hJs, hkp, hnw⟩ := hrel
    by_cases hlt : k < l.length
    · have hpl : pre.length < l.length := by have := inN_length l o s k; rw [← hpre, List.length_map] at this; omega
      have hbw : Below w0.heap.size w0 wr := HB0.out.trans ⟨hkp.below.1, hkp.below.2, hkp.below.3, hkp.below.4, fun k hk => hkp.below.5 k (by omega)⟩
      have HCR := Aside0.mk (Kd.C_drew (Kd.C_below HC.out hbw))
      have k1 := (hkp.same B1 hB1.1 hB1.2).trans HK1.out
      have k2 := (hkp.same B2 hB2.1 hB2.2).trans HK2.out
      have k3 := (hkp.same B3 hB3.1 hB3.2).trans HK3.out
      obtain ⟨y0, y1, y2, y3, _⟩ := blk4 k1
      have y4 : wr.cell? ⟨B2, 0, none⟩ = some (.int .i64 o) := (blk_cell k2 0).trans rfl
      have y5 : wr.cell? ⟨B3, 0, none⟩ = some (.int .i64 s) := (blk_cell k3 0).trans rfl
      have hb3 : B3 < wr.heap.size := by omega
      have HKP := Aside0.mk hkp
      have HPRE := Aside0.mk hpre
      clear k1 k2 k3 hbw hkp hpre
      have hmix : Try.prog.follows .mixedOrders = true := by kernel_rfl
      by_cases he : staV l o k = s
      · have hE : (staV l o k == s) = true := beq_iff_eq.mpr he
        have HM := Lib.hid (inN_hit (l := l) (o := o) (s := s) (k := k) he)
        obtain ⟨sv, hsv⟩ : ∃ sv, staV l o k = sv := ⟨_, rfl⟩
        have ST := Aside0.mk (state_any A c l br off ops o (k : Int) wr.drew HCR.out)
        rw [hsv] at hE ST
        clear he
        gi_wp2
        refine wpIn_region_any hmix ?_
        change wpAnyIn _ _ _ _ _ _ _ _ _ (World.drew _)
        refine wpAnyIn_take (i := 2) (v := ?_) rfl rfl (by kernel_rfl) (by kernel_rfl) (by kernel_rfl) (fun _ _ _ h => h) ⟨Or.inl ⟨by rfl, fun w => by go_simp; rfl⟩, fun _ => rfl⟩ ?_
        refine wpAnyIn_ready (rs := [0, 1, 4]) (by kernel_rfl) (by simp) ?_
        refine AllReadyIn.cons rfl (fun K hK => ?_) (AllReadyIn.cons rfl (fun K hK => ?_) (AllReadyIn.cons rfl (fun K hK => ?_) AllReadyIn.nil))
        · go_simp
          refine hK _ _ ?_; clear hK K
          refine wpAnyIn_ready (rs := [1, 4]) (by kernel_rfl) (by simp) ?_
          refine AllReadyIn.cons rfl (fun K hK => ?_) (AllReadyIn.cons rfl (fun K hK => ?_) AllReadyIn.nil)
          · go_simp
            refine hK _ _ ?_; clear hK K
            refine wpAnyIn_ready (rs := [3, 4]) (by kernel_rfl) (by simp) ?_
            refine AllReadyIn.cons rfl (fun K hK => ?_) (AllReadyIn.cons rfl (fun K hK => ?_) AllReadyIn.nil)
            · go_simp
              refine ⟨trivial, (callsIn_wide.2 ST.out).mono ?_⟩; rintro e w1 ⟨rfl, hb1⟩; have q3 := (hb1.cell (p := ⟨B3, 0, none⟩) (by simpa using hb3)).trans y5; obtain ⟨fn, tmps, assign, body, hy, hR⟩ := HY.out pre ⟨k, hlt⟩ w1 (HJ.out _ _ _ (HJ.out _ _ _ hJs (below_drew1 (Below.refl _ _))) hb1) hpl; have HB1 := Aside0.mk hb1; clear hb1; refine hK _ _ ?_; clear hK K
              refine wpAnyIn_ready (rs := [4]) (by kernel_rfl) (by simp) ?_
              refine AllReadyIn.cons rfl (fun K hK => ?_) AllReadyIn.nil
              · go_simp
                refine hK _ _ ?_; clear hK K
                refine wpAnyIn_ready (rs := [5]) (by kernel_rfl) (by simp) ?_
                refine AllReadyIn.cons rfl (fun K hK => ?_) AllReadyIn.nil
                go_simp
                refine hK _ _ ?_; clear hK K
                refine wpAnyIn_ready (rs := [6]) (by kernel_rfl) (by simp) ?_
                refine AllReadyIn.cons rfl (fun K hK => ?_) AllReadyIn.nil
                go_simp
                refine hK _ _ ?_; clear hK K
                refine wpAnyIn_take (i := 7) (v := ?_) rfl rfl (by kernel_rfl) (by kernel_rfl) (by kernel_rfl) (fun _ _ _ h => h) ⟨Or.inl ⟨by rfl, fun w => by go_simp; rfl⟩, fun _ => rfl⟩ ?_
                refine wpAnyIn_ready (rs := [8]) (by kernel_rfl) (by simp) ?_
                refine AllReadyIn.cons rfl (fun K hK => ?_) AllReadyIn.nil
                go_simp
                refine hK _ _ ?_; clear hK K
                refine wpAnyIn_ready (rs := [9]) (by kernel_rfl) (by simp) ?_
                refine AllReadyIn.cons rfl (fun K hK => ?_) AllReadyIn.nil
                go_simp
                refine hR.mono ?_
                rintro e W3 (⟨rfl, hJ3, hk3⟩ | ⟨rfl, hJx3⟩)
                · refine hK _ _ ?_; clear hK K
                  refine wpAnyIn_ready (rs := [10]) (by kernel_rfl) (by simp) ?_
                  refine AllReadyIn.cons rfl (fun K hK => ?_) AllReadyIn.nil
                  go_simp
                  refine hK _ _ ?_; clear hK K
                  refine wpAnyIn_ready (rs := [11]) (by kernel_rfl) (by simp) ?_
                  refine AllReadyIn.cons rfl (fun K hK => ?_) AllReadyIn.nil
                  go_simp
                  refine hK _ _ ?_; clear hK K
                  refine wpAnyIn_done (by kernel_rfl) ?_ _
                  gi_wp2
                  go_roundw
                  case rel => exact ⟨k + 1, pre ++ [⟨k, hlt⟩], by omega, by simp, by rw [HM.out, List.map_append, HPRE.out]; rfl, hJ3, (HKP.out.trans ((KpB.of_below (below_drew1 (Below.refl _ _)) (by omega) hnw).trans (KpB.of_below HB1.out (by simpa using (by omega : H ≤ wr.heap.size)) (by simpa using hnw)))).trans hk3, Nat.le_trans (Nat.le_trans hnw HB1.out.size) hk3.below.size⟩
                  case measure => simp [intOf]; omega
                · refine hK _ _ ?_; clear hK K
                  refine wpAnyIn_ready (rs := [10]) (by kernel_rfl) (by simp) ?_
                  refine AllReadyIn.cons rfl (fun K hK => ?_) AllReadyIn.nil
                  go_simp
                  refine hK _ _ ?_; clear hK K
                  refine wpAnyIn_ready (rs := [11]) (by kernel_rfl) (by simp) ?_
                  refine AllReadyIn.cons rfl (fun K hK => ?_) AllReadyIn.nil
                  go_simp
                  refine hK _ _ ?_; clear hK K
                  refine wpAnyIn_done (by kernel_rfl) ?_ _
                  gi_wp2
                  refine bodyPost_ret (results_none rfl _ _ _) rfl ?_
                  exact ⟨⟨_, rfl⟩, .inr ⟨pre ++ [⟨k, hlt⟩], ⟨k + 1, by omega, by rw [HM.out, List.map_append, HPRE.out]; rfl⟩, hJx3⟩⟩
            · go_simp
              refine hK _ _ ?_; clear hK K
              refine wpAnyIn_ready (rs := [3]) (by kernel_rfl) (by simp) ?_
              refine AllReadyIn.cons rfl (fun K hK => ?_) AllReadyIn.nil
              · go_simp
                refine ⟨trivial, (callsIn_wide.2 ST.out).mono ?_⟩; rintro e w1 ⟨rfl, hb1⟩; have q3 := (hb1.cell (p := ⟨B3, 0, none⟩) (by simpa using hb3)).trans y5; obtain ⟨fn, tmps, assign, body, hy, hR⟩ := HY.out pre ⟨k, hlt⟩ w1 (HJ.out _ _ _ (HJ.out _ _ _ hJs (below_drew1 (Below.refl _ _))) hb1) hpl; have HB1 := Aside0.mk hb1; clear hb1; refine hK _ _ ?_; clear hK K
                refine wpAnyIn_ready (rs := [5]) (by kernel_rfl) (by simp) ?_
                refine AllReadyIn.cons rfl (fun K hK => ?_) AllReadyIn.nil
                go_simp
                refine hK _ _ ?_; clear hK K
                refine wpAnyIn_ready (rs := [6]) (by kernel_rfl) (by simp) ?_
                refine AllReadyIn.cons rfl (fun K hK => ?_) AllReadyIn.nil
                go_simp
                refine hK _ _ ?_; clear hK K
                refine wpAnyIn_take (i := 7) (v := ?_) rfl rfl (by kernel_rfl) (by kernel_rfl) (by kernel_rfl) (fun _ _ _ h => h) ⟨Or.inl ⟨by rfl, fun w => by go_simp; rfl⟩, fun _ => rfl⟩ ?_
                refine wpAnyIn_ready (rs := [8]) (by kernel_rfl) (by simp) ?_
                refine AllReadyIn.cons rfl (fun K hK => ?_) AllReadyIn.nil
                go_simp
                refine hK _ _ ?_; clear hK K
                refine wpAnyIn_ready (rs := [9]) (by kernel_rfl) (by simp) ?_
                refine AllReadyIn.cons rfl (fun K hK => ?_) AllReadyIn.nil
                go_simp
                refine hR.mono ?_
                rintro e W3 (⟨rfl, hJ3, hk3⟩ | ⟨rfl, hJx3⟩)
                · refine hK _ _ ?_; clear hK K
                  refine wpAnyIn_ready (rs := [10]) (by kernel_rfl) (by simp) ?_
                  refine AllReadyIn.cons rfl (fun K hK => ?_) AllReadyIn.nil
                  go_simp
                  refine hK _ _ ?_; clear hK K
                  refine wpAnyIn_ready (rs := [11]) (by kernel_rfl) (by simp) ?_
                  refine AllReadyIn.cons rfl (fun K hK => ?_) AllReadyIn.nil
                  go_simp
                  refine hK _ _ ?_; clear hK K
                  refine wpAnyIn_done (by kernel_rfl) ?_ _
                  gi_wp2
                  go_roundw
                  case rel => exact ⟨k + 1, pre ++ [⟨k, hlt⟩], by omega, by simp, by rw [HM.out, List.map_append, HPRE.out]; rfl, hJ3, (HKP.out.trans ((KpB.of_below (below_drew1 (Below.refl _ _)) (by omega) hnw).trans (KpB.of_below HB1.out (by simpa using (by omega : H ≤ wr.heap.size)) (by simpa using hnw)))).trans hk3, Nat.le_trans (Nat.le_trans hnw HB1.out.size) hk3.below.size⟩
                  case measure => simp [intOf]; omega
                · refine hK _ _ ?_; clear hK K
                  refine wpAnyIn_ready (rs := [10]) (by kernel_rfl) (by simp) ?_
                  refine AllReadyIn.cons rfl (fun K hK => ?_) AllReadyIn.nil
                  go_simp
                  refine hK _ _ ?_; clear hK K
                  refine wpAnyIn_ready (rs := [11]) (by kernel_rfl) (by simp) ?_
                  refine AllReadyIn.cons rfl (fun K hK => ?_) AllReadyIn.nil
                  go_simp
                  refine hK _ _ ?_; clear hK K
                  refine wpAnyIn_done (by kernel_rfl) ?_ _
                  gi_wp2
                  refine bodyPost_ret (results_none rfl _ _ _) rfl ?_
                  exact ⟨⟨_, rfl⟩, .inr ⟨pre ++ [⟨k, hlt⟩], ⟨k + 1, by omega, by rw [HM.out, List.map_append, HPRE.out]; rfl⟩, hJx3⟩⟩
          · go_simp
            refine hK _ _ ?_; clear hK K
            refine wpAnyIn_ready (rs := [1]) (by kernel_rfl) (by simp) ?_
            refine AllReadyIn.cons rfl (fun K hK => ?_) AllReadyIn.nil
            · go_simp
              refine hK _ _ ?_; clear hK K
              refine wpAnyIn_ready (rs := [3]) (by kernel_rfl) (by simp) ?_
              refine AllReadyIn.cons rfl (fun K hK => ?_) AllReadyIn.nil
              · go_simp
                refine ⟨trivial, (callsIn_wide.2 ST.out).mono ?_⟩; rintro e w1 ⟨rfl, hb1⟩; have q3 := (hb1.cell (p := ⟨B3, 0, none⟩) (by simpa using hb3)).trans y5; obtain ⟨fn, tmps, assign, body, hy, hR⟩ := HY.out pre ⟨k, hlt⟩ w1 (HJ.out _ _ _ (HJ.out _ _ _ hJs (below_drew1 (Below.refl _ _))) hb1) hpl; have HB1 := Aside0.mk hb1; clear hb1; refine hK _ _ ?_; clear hK K
                refine wpAnyIn_ready (rs := [5]) (by kernel_rfl) (by simp) ?_
                refine AllReadyIn.cons rfl (fun K hK => ?_) AllReadyIn.nil
                go_simp
                refine hK _ _ ?_; clear hK K
                refine wpAnyIn_ready (rs := [6]) (by kernel_rfl) (by simp) ?_
                refine AllReadyIn.cons rfl (fun K hK => ?_) AllReadyIn.nil
                go_simp
                refine hK _ _ ?_; clear hK K
                refine wpAnyIn_take (i := 7) (v := ?_) rfl rfl (by kernel_rfl) (by kernel_rfl) (by kernel_rfl) (fun _ _ _ h => h) ⟨Or.inl ⟨by rfl, fun w => by go_simp; rfl⟩, fun _ => rfl⟩ ?_
                refine wpAnyIn_ready (rs := [8]) (by kernel_rfl) (by simp) ?_
                refine AllReadyIn.cons rfl (fun K hK => ?_) AllReadyIn.nil
                go_simp
                refine hK _ _ ?_; clear hK K
                refine wpAnyIn_ready (rs := [9]) (by kernel_rfl) (by simp) ?_
                refine AllReadyIn.cons rfl (fun K hK => ?_) AllReadyIn.nil
                go_simp
                refine hR.mono ?_
                rintro e W3 (⟨rfl, hJ3, hk3⟩ | ⟨rfl, hJx3⟩)
                · refine hK _ _ ?_; clear hK K
                  refine wpAnyIn_ready (rs := [10]) (by kernel_rfl) (by simp) ?_
                  refine AllReadyIn.cons rfl (fun K hK => ?_) AllReadyIn.nil
                  go_simp
                  refine hK _ _ ?_; clear hK K
                  refine wpAnyIn_ready (rs := [11]) (by kernel_rfl) (by simp) ?_
                  refine AllReadyIn.cons rfl (fun K hK => ?_) AllReadyIn.nil
                  go_simp
                  refine hK _ _ ?_; clear hK K
                  refine wpAnyIn_done (by kernel_rfl) ?_ _
                  gi_wp2
                  go_roundw
                  case rel => exact ⟨k + 1, pre ++ [⟨k, hlt⟩], by omega, by simp, by rw [HM.out, List.map_append, HPRE.out]; rfl, hJ3, (HKP.out.trans ((KpB.of_below (below_drew1 (Below.refl _ _)) (by omega) hnw).trans (KpB.of_below HB1.out (by simpa using (by omega : H ≤ wr.heap.size)) (by simpa using hnw)))).trans hk3, Nat.le_trans (Nat.le_trans hnw HB1.out.size) hk3.below.size⟩
                  case measure => simp [intOf]; omega
                · refine hK _ _ ?_; clear hK K
                  refine wpAnyIn_ready (rs := [10]) (by kernel_rfl) (by simp) ?_
                  refine AllReadyIn.cons rfl (fun K hK => ?_) AllReadyIn.nil
                  go_simp
                  refine hK _ _ ?_; clear hK K
                  refine wpAnyIn_ready (rs := [11]) (by kernel_rfl) (by simp) ?_
                  refine AllReadyIn.cons rfl (fun K hK => ?_) AllReadyIn.nil
                  go_simp
                  refine hK _ _ ?_; clear hK K
                  refine wpAnyIn_done (by kernel_rfl) ?_ _
                  gi_wp2
                  refine bodyPost_ret (results_none rfl _ _ _) rfl ?_
                  exact ⟨⟨_, rfl⟩, .inr ⟨pre ++ [⟨k, hlt⟩], ⟨k + 1, by omega, by rw [HM.out, List.map_append, HPRE.out]; rfl⟩, hJx3⟩⟩
        · go_simp
          refine hK _ _ ?_; clear hK K
          refine wpAnyIn_ready (rs := [0, 4]) (by kernel_rfl) (by simp) ?_
          refine AllReadyIn.cons rfl (fun K hK => ?_) (AllReadyIn.cons rfl (fun K hK => ?_) AllReadyIn.nil)
          · go_simp
            refine hK _ _ ?_; clear hK K
            refine wpAnyIn_ready (rs := [3, 4]) (by kernel_rfl) (by simp) ?_
            refine AllReadyIn.cons rfl (fun K hK => ?_) (AllReadyIn.cons rfl (fun K hK => ?_) AllReadyIn.nil)
            · go_simp
              refine ⟨trivial, (callsIn_wide.2 ST.out).mono ?_⟩; rintro e w1 ⟨rfl, hb1⟩; have q3 := (hb1.cell (p := ⟨B3, 0, none⟩) (by simpa using hb3)).trans y5; obtain ⟨fn, tmps, assign, body, hy, hR⟩ := HY.out pre ⟨k, hlt⟩ w1 (HJ.out _ _ _ (HJ.out _ _ _ hJs (below_drew1 (Below.refl _ _))) hb1) hpl; have HB1 := Aside0.mk hb1; clear hb1; refine hK _ _ ?_; clear hK K
              refine wpAnyIn_ready (rs := [4]) (by kernel_rfl) (by simp) ?_
              refine AllReadyIn.cons rfl (fun K hK => ?_) AllReadyIn.nil
              · go_simp
                refine hK _ _ ?_; clear hK K
                refine wpAnyIn_ready (rs := [5]) (by kernel_rfl) (by simp) ?_
                refine AllReadyIn.cons rfl (fun K hK => ?_) AllReadyIn.nil
                go_simp
                refine hK _ _ ?_; clear hK K
                refine wpAnyIn_ready (rs := [6]) (by kernel_rfl) (by simp) ?_
                refine AllReadyIn.cons rfl (fun K hK => ?_) AllReadyIn.nil
                go_simp
                refine hK _ _ ?_; clear hK K
                refine wpAnyIn_take (i := 7) (v := ?_) rfl rfl (by kernel_rfl) (by kernel_rfl) (by kernel_rfl) (fun _ _ _ h => h) ⟨Or.inl ⟨by rfl, fun w => by go_simp; rfl⟩, fun _ => rfl⟩ ?_
                refine wpAnyIn_ready (rs := [8]) (by kernel_rfl) (by simp) ?_
                refine AllReadyIn.cons rfl (fun K hK => ?_) AllReadyIn.nil
                go_simp
                refine hK _ _ ?_; clear hK K
                refine wpAnyIn_ready (rs := [9]) (by kernel_rfl) (by simp) ?_
                refine AllReadyIn.cons rfl (fun K hK => ?_) AllReadyIn.nil
                go_simp
                refine hR.mono ?_
                rintro e W3 (⟨rfl, hJ3, hk3⟩ | ⟨rfl, hJx3⟩)
                · refine hK _ _ ?_; clear hK K
                  refine wpAnyIn_ready (rs := [10]) (by kernel_rfl) (by simp) ?_
                  refine AllReadyIn.cons rfl (fun K hK => ?_) AllReadyIn.nil
                  go_simp
                  refine hK _ _ ?_; clear hK K
                  refine wpAnyIn_ready (rs := [11]) (by kernel_rfl) (by simp) ?_
                  refine AllReadyIn.cons rfl (fun K hK => ?_) AllReadyIn.nil
                  go_simp
                  refine hK _ _ ?_; clear hK K
                  refine wpAnyIn_done (by kernel_rfl) ?_ _
                  gi_wp2
                  go_roundw
                  case rel => exact ⟨k + 1, pre ++ [⟨k, hlt⟩], by omega, by simp, by rw [HM.out, List.map_append, HPRE.out]; rfl, hJ3, (HKP.out.trans ((KpB.of_below (below_drew1 (Below.refl _ _)) (by omega) hnw).trans (KpB.of_below HB1.out (by simpa using (by omega : H ≤ wr.heap.size)) (by simpa using hnw)))).trans hk3, Nat.le_trans (Nat.le_trans hnw HB1.out.size) hk3.below.size⟩
                  case measure => simp [intOf]; omega
                · refine hK _ _ ?_; clear hK K
                  refine wpAnyIn_ready (rs := [10]) (by kernel_rfl) (by simp) ?_
                  refine AllReadyIn.cons rfl (fun K hK => ?_) AllReadyIn.nil
                  go_simp
                  refine hK _ _ ?_; clear hK K
                  refine wpAnyIn_ready (rs := [11]) (by kernel_rfl) (by simp) ?_
                  refine AllReadyIn.cons rfl (fun K hK => ?_) AllReadyIn.nil
                  go_simp
                  refine hK _ _ ?_; clear hK K
                  refine wpAnyIn_done (by kernel_rfl) ?_ _
                  gi_wp2
                  refine bodyPost_ret (results_none rfl _ _ _) rfl ?_
                  exact ⟨⟨_, rfl⟩, .inr ⟨pre ++ [⟨k, hlt⟩], ⟨k + 1, by omega, by rw [HM.out, List.map_append, HPRE.out]; rfl⟩, hJx3⟩⟩
            · go_simp
              refine hK _ _ ?_; clear hK K
              refine wpAnyIn_ready (rs := [3]) (by kernel_rfl) (by simp) ?_
              refine AllReadyIn.cons rfl (fun K hK => ?_) AllReadyIn.nil
              · go_simp
                refine ⟨trivial, (callsIn_wide.2 ST.out).mono ?_⟩; rintro e w1 ⟨rfl, hb1⟩; have q3 := (hb1.cell (p := ⟨B3, 0, none⟩) (by simpa using hb3)).trans y5; obtain ⟨fn, tmps, assign, body, hy, hR⟩ := HY.out pre ⟨k, hlt⟩ w1 (HJ.out _ _ _ (HJ.out _ _ _ hJs (below_drew1 (Below.refl _ _))) hb1) hpl; have HB1 := Aside0.mk hb1; clear hb1; refine hK _ _ ?_; clear hK K
                refine wpAnyIn_ready (rs := [5]) (by kernel_rfl) (by simp) ?_
                refine AllReadyIn.cons rfl (fun K hK => ?_) AllReadyIn.nil
                go_simp
                refine hK _ _ ?_; clear hK K
                refine wpAnyIn_ready (rs := [6]) (by kernel_rfl) (by simp) ?_
                refine AllReadyIn.cons rfl (fun K hK => ?_) AllReadyIn.nil
                go_simp
                refine hK _ _ ?_; clear hK K
                refine wpAnyIn_take (i := 7) (v := ?_) rfl rfl (by kernel_rfl) (by kernel_rfl) (by kernel_rfl) (fun _ _ _ h => h) ⟨Or.inl ⟨by rfl, fun w => by go_simp; rfl⟩, fun _ => rfl⟩ ?_
                refine wpAnyIn_ready (rs := [8]) (by kernel_rfl) (by simp) ?_
                refine AllReadyIn.cons rfl (fun K hK => ?_) AllReadyIn.nil
                go_simp
                refine hK _ _ ?_; clear hK K
                refine wpAnyIn_ready (rs := [9]) (by kernel_rfl) (by simp) ?_
                refine AllReadyIn.cons rfl (fun K hK => ?_) AllReadyIn.nil
                go_simp
                refine hR.mono ?_
                rintro e W3 (⟨rfl, hJ3, hk3⟩ | ⟨rfl, hJx3⟩)
                · refine hK _ _ ?_; clear hK K
                  refine wpAnyIn_ready (rs := [10]) (by kernel_rfl) (by simp) ?_
                  refine AllReadyIn.cons rfl (fun K hK => ?_) AllReadyIn.nil
                  go_simp
                  refine hK _ _ ?_; clear hK K
                  refine wpAnyIn_ready (rs := [11]) (by kernel_rfl) (by simp) ?_
                  refine AllReadyIn.cons rfl (fun K hK => ?_) AllReadyIn.nil
                  go_simp
                  refine hK _ _ ?_; clear hK K
                  refine wpAnyIn_done (by kernel_rfl) ?_ _
                  gi_wp2
                  go_roundw
                  case rel => exact ⟨k + 1, pre ++ [⟨k, hlt⟩], by omega, by simp, by rw [HM.out, List.map_append, HPRE.out]; rfl, hJ3, (HKP.out.trans ((KpB.of_below (below_drew1 (Below.refl _ _)) (by omega) hnw).trans (KpB.of_below HB1.out (by simpa using (by omega : H ≤ wr.heap.size)) (by simpa using hnw)))).trans hk3, Nat.le_trans (Nat.le_trans hnw HB1.out.size) hk3.below.size⟩
                  case measure => simp [intOf]; omega
                · refine hK _ _ ?_; clear hK K
                  refine wpAnyIn_ready (rs := [10]) (by kernel_rfl) (by simp) ?_
                  refine AllReadyIn.cons rfl (fun K hK => ?_) AllReadyIn.nil
                  go_simp
                  refine hK _ _ ?_; clear hK K
                  refine wpAnyIn_ready (rs := [11]) (by kernel_rfl) (by simp) ?_
                  refine AllReadyIn.cons rfl (fun K hK => ?_) AllReadyIn.nil
                  go_simp
                  refine hK _ _ ?_; clear hK K
                  refine wpAnyIn_done (by kernel_rfl) ?_ _
                  gi_wp2
                  refine bodyPost_ret (results_none rfl _ _ _) rfl ?_
                  exact ⟨⟨_, rfl⟩, .inr ⟨pre ++ [⟨k, hlt⟩], ⟨k + 1, by omega, by rw [HM.out, List.map_append, HPRE.out]; rfl⟩, hJx3⟩⟩
          · go_simp
            refine hK _ _ ?_; clear hK K
            refine wpAnyIn_ready (rs := [0]) (by kernel_rfl) (by simp) ?_
            refine AllReadyIn.cons rfl (fun K hK => ?_) AllReadyIn.nil
            · go_simp
              refine hK _ _ ?_; clear hK K
              refine wpAnyIn_ready (rs := [3]) (by kernel_rfl) (by simp) ?_
              refine AllReadyIn.cons rfl (fun K hK => ?_) AllReadyIn.nil
              · go_simp
                refine ⟨trivial, (callsIn_wide.2 ST.out).mono ?_⟩; rintro e w1 ⟨rfl, hb1⟩; have q3 := (hb1.cell (p := ⟨B3, 0, none⟩) (by simpa using hb3)).trans y5; obtain ⟨fn, tmps, assign, body, hy, hR⟩ := HY.out pre ⟨k, hlt⟩ w1 (HJ.out _ _ _ (HJ.out _ _ _ hJs (below_drew1 (Below.refl _ _))) hb1) hpl; have HB1 := Aside0.mk hb1; clear hb1; refine hK _ _ ?_; clear hK K
                refine wpAnyIn_ready (rs := [5]) (by kernel_rfl) (by simp) ?_
                refine AllReadyIn.cons rfl (fun K hK => ?_) AllReadyIn.nil
                go_simp
                refine hK _ _ ?_; clear hK K
                refine wpAnyIn_ready (rs := [6]) (by kernel_rfl) (by simp) ?_
                refine AllReadyIn.cons rfl (fun K hK => ?_) AllReadyIn.nil
                go_simp
                refine hK _ _ ?_; clear hK K
                refine wpAnyIn_take (i := 7) (v := ?_) rfl rfl (by kernel_rfl) (by kernel_rfl) (by kernel_rfl) (fun _ _ _ h => h) ⟨Or.inl ⟨by rfl, fun w => by go_simp; rfl⟩, fun _ => rfl⟩ ?_
                refine wpAnyIn_ready (rs := [8]) (by kernel_rfl) (by simp) ?_
                refine AllReadyIn.cons rfl (fun K hK => ?_) AllReadyIn.nil
                go_simp
                refine hK _ _ ?_; clear hK K
                refine wpAnyIn_ready (rs := [9]) (by kernel_rfl) (by simp) ?_
                refine AllReadyIn.cons rfl (fun K hK => ?_) AllReadyIn.nil
                go_simp
                refine hR.mono ?_
                rintro e W3 (⟨rfl, hJ3, hk3⟩ | ⟨rfl, hJx3⟩)
                · refine hK _ _ ?_; clear hK K
                  refine wpAnyIn_ready (rs := [10]) (by kernel_rfl) (by simp) ?_
                  refine AllReadyIn.cons rfl (fun K hK => ?_) AllReadyIn.nil
                  go_simp
                  refine hK _ _ ?_; clear hK K
                  refine wpAnyIn_ready (rs := [11]) (by kernel_rfl) (by simp) ?_
                  refine AllReadyIn.cons rfl (fun K hK => ?_) AllReadyIn.nil
                  go_simp
                  refine hK _ _ ?_; clear hK K
                  refine wpAnyIn_done (by kernel_rfl) ?_ _
                  gi_wp2
                  go_roundw
                  case rel => exact ⟨k + 1, pre ++ [⟨k, hlt⟩], by omega, by simp, by rw [HM.out, List.map_append, HPRE.out]; rfl, hJ3, (HKP.out.trans ((KpB.of_below (below_drew1 (Below.refl _ _)) (by omega) hnw).trans (KpB.of_below HB1.out (by simpa using (by omega : H ≤ wr.heap.size)) (by simpa using hnw)))).trans hk3, Nat.le_trans (Nat.le_trans hnw HB1.out.size) hk3.below.size⟩
                  case measure => simp [intOf]; omega
                · refine hK _ _ ?_; clear hK K
                  refine wpAnyIn_ready (rs := [10]) (by kernel_rfl) (by simp) ?_
                  refine AllReadyIn.cons rfl (fun K hK => ?_) AllReadyIn.nil
                  go_simp
                  refine hK _ _ ?_; clear hK K
                  refine wpAnyIn_ready (rs := [11]) (by kernel_rfl) (by simp) ?_
                  refine AllReadyIn.cons rfl (fun K hK => ?_) AllReadyIn.nil
                  go_simp
                  refine hK _ _ ?_; clear hK K
                  refine wpAnyIn_done (by kernel_rfl) ?_ _
                  gi_wp2
                  refine bodyPost_ret (results_none rfl _ _ _) rfl ?_
                  exact ⟨⟨_, rfl⟩, .inr ⟨pre ++ [⟨k, hlt⟩], ⟨k + 1, by omega, by rw [HM.out, List.map_append, HPRE.out]; rfl⟩, hJx3⟩⟩
        · go_simp
          refine hK _ _ ?_; clear hK K
          refine wpAnyIn_ready (rs := [0, 1]) (by kernel_rfl) (by simp) ?_
          refine AllReadyIn.cons rfl (fun K hK => ?_) (AllReadyIn.cons rfl (fun K hK => ?_) AllReadyIn.nil)
          · go_simp
            refine hK _ _ ?_; clear hK K
            refine wpAnyIn_ready (rs := [1]) (by kernel_rfl) (by simp) ?_
            refine AllReadyIn.cons rfl (fun K hK => ?_) AllReadyIn.nil
            · go_simp
              refine hK _ _ ?_; clear hK K
              refine wpAnyIn_ready (rs := [3]) (by kernel_rfl) (by simp) ?_
              refine AllReadyIn.cons rfl (fun K hK => ?_) AllReadyIn.nil
              · go_simp
                refine ⟨trivial, (callsIn_wide.2 ST.out).mono ?_⟩; rintro e w1 ⟨rfl, hb1⟩; have q3 := (hb1.cell (p := ⟨B3, 0, none⟩) (by simpa using hb3)).trans y5; obtain ⟨fn, tmps, assign, body, hy, hR⟩ := HY.out pre ⟨k, hlt⟩ w1 (HJ.out _ _ _ (HJ.out _ _ _ hJs (below_drew1 (Below.refl _ _))) hb1) hpl; have HB1 := Aside0.mk hb1; clear hb1; refine hK _ _ ?_; clear hK K
                refine wpAnyIn_ready (rs := [5]) (by kernel_rfl) (by simp) ?_
                refine AllReadyIn.cons rfl (fun K hK => ?_) AllReadyIn.nil
                go_simp
                refine hK _ _ ?_; clear hK K
                refine wpAnyIn_ready (rs := [6]) (by kernel_rfl) (by simp) ?_
                refine AllReadyIn.cons rfl (fun K hK => ?_) AllReadyIn.nil
                go_simp
                refine hK _ _ ?_; clear hK K
                refine wpAnyIn_take (i := 7) (v := ?_) rfl rfl (by kernel_rfl) (by kernel_rfl) (by kernel_rfl) (fun _ _ _ h => h) ⟨Or.inl ⟨by rfl, fun w => by go_simp; rfl⟩, fun _ => rfl⟩ ?_
                refine wpAnyIn_ready (rs := [8]) (by kernel_rfl) (by simp) ?_
                refine AllReadyIn.cons rfl (fun K hK => ?_) AllReadyIn.nil
                go_simp
                refine hK _ _ ?_; clear hK K
                refine wpAnyIn_ready (rs := [9]) (by kernel_rfl) (by simp) ?_
                refine AllReadyIn.cons rfl (fun K hK => ?_) AllReadyIn.nil
                go_simp
                refine hR.mono ?_
                rintro e W3 (⟨rfl, hJ3, hk3⟩ | ⟨rfl, hJx3⟩)
                · refine hK _ _ ?_; clear hK K
                  refine wpAnyIn_ready (rs := [10]) (by kernel_rfl) (by simp) ?_
                  refine AllReadyIn.cons rfl (fun K hK => ?_) AllReadyIn.nil
                  go_simp
                  refine hK _ _ ?_; clear hK K
                  refine wpAnyIn_ready (rs := [11]) (by kernel_rfl) (by simp) ?_
                  refine AllReadyIn.cons rfl (fun K hK => ?_) AllReadyIn.nil
                  go_simp
                  refine hK _ _ ?_; clear hK K
                  refine wpAnyIn_done (by kernel_rfl) ?_ _
                  gi_wp2
                  go_roundw
                  case rel => exact ⟨k + 1, pre ++ [⟨k, hlt⟩], by omega, by simp, by rw [HM.out, List.map_append, HPRE.out]; rfl, hJ3, (HKP.out.trans ((KpB.of_below (below_drew1 (Below.refl _ _)) (by omega) hnw).trans (KpB.of_below HB1.out (by simpa using (by omega : H ≤ wr.heap.size)) (by simpa using hnw)))).trans hk3, Nat.le_trans (Nat.le_trans hnw HB1.out.size) hk3.below.size⟩
                  case measure => simp [intOf]; omega
                · refine hK _ _ ?_; clear hK K
                  refine wpAnyIn_ready (rs := [10]) (by kernel_rfl) (by simp) ?_
                  refine AllReadyIn.cons rfl (fun K hK => ?_) AllReadyIn.nil
                  go_simp
                  refine hK _ _ ?_; clear hK K
                  refine wpAnyIn_ready (rs := [11]) (by kernel_rfl) (by simp) ?_
                  refine AllReadyIn.cons rfl (fun K hK => ?_) AllReadyIn.nil
                  go_simp
                  refine hK _ _ ?_; clear hK K
                  refine wpAnyIn_done (by kernel_rfl) ?_ _
                  gi_wp2
                  refine bodyPost_ret (results_none rfl _ _ _) rfl ?_
                  exact ⟨⟨_, rfl⟩, .inr ⟨pre ++ [⟨k, hlt⟩], ⟨k + 1, by omega, by rw [HM.out, List.map_append, HPRE.out]; rfl⟩, hJx3⟩⟩
          · go_simp
            refine hK _ _ ?_; clear hK K
            refine wpAnyIn_ready (rs := [0]) (by kernel_rfl) (by simp) ?_
            refine AllReadyIn.cons rfl (fun K hK => ?_) AllReadyIn.nil
            · go_simp
              refine hK _ _ ?_; clear hK K
              refine wpAnyIn_ready (rs := [3]) (by kernel_rfl) (by simp) ?_
              refine AllReadyIn.cons rfl (fun K hK => ?_) AllReadyIn.nil
              · go_simp
                refine ⟨trivial, (callsIn_wide.2 ST.out).mono ?_⟩; rintro e w1 ⟨rfl, hb1⟩; have q3 := (hb1.cell (p := ⟨B3, 0, none⟩) (by simpa using hb3)).trans y5; obtain ⟨fn, tmps, assign, body, hy, hR⟩ := HY.out pre ⟨k, hlt⟩ w1 (HJ.out _ _ _ (HJ.out _ _ _ hJs (below_drew1 (Below.refl _ _))) hb1) hpl; have HB1 := Aside0.mk hb1; clear hb1; refine hK _ _ ?_; clear hK K
                refine wpAnyIn_ready (rs := [5]) (by kernel_rfl) (by simp) ?_
                refine AllReadyIn.cons rfl (fun K hK => ?_) AllReadyIn.nil
                go_simp
                refine hK _ _ ?_; clear hK K
                refine wpAnyIn_ready (rs := [6]) (by kernel_rfl) (by simp) ?_
                refine AllReadyIn.cons rfl (fun K hK => ?_) AllReadyIn.nil
                go_simp
                refine hK _ _ ?_; clear hK K
                refine wpAnyIn_take (i := 7) (v := ?_) rfl rfl (by kernel_rfl) (by kernel_rfl) (by kernel_rfl) (fun _ _ _ h => h) ⟨Or.inl ⟨by rfl, fun w => by go_simp; rfl⟩, fun _ => rfl⟩ ?_
                refine wpAnyIn_ready (rs := [8]) (by kernel_rfl) (by simp) ?_
                refine AllReadyIn.cons rfl (fun K hK => ?_) AllReadyIn.nil
                go_simp
                refine hK _ _ ?_; clear hK K
                refine wpAnyIn_ready (rs := [9]) (by kernel_rfl) (by simp) ?_
                refine AllReadyIn.cons rfl (fun K hK => ?_) AllReadyIn.nil
                go_simp
                refine hR.mono ?_
                rintro e W3 (⟨rfl, hJ3, hk3⟩ | ⟨rfl, hJx3⟩)
                · refine hK _ _ ?_; clear hK K
                  refine wpAnyIn_ready (rs := [10]) (by kernel_rfl) (by simp) ?_
                  refine AllReadyIn.cons rfl (fun K hK => ?_) AllReadyIn.nil
                  go_simp
                  refine hK _ _ ?_; clear hK K
                  refine wpAnyIn_ready (rs := [11]) (by kernel_rfl) (by simp) ?_
                  refine AllReadyIn.cons rfl (fun K hK => ?_) AllReadyIn.nil
                  go_simp
                  refine hK _ _ ?_; clear hK K
                  refine wpAnyIn_done (by kernel_rfl) ?_ _
                  gi_wp2
                  go_roundw
                  case rel => exact ⟨k + 1, pre ++ [⟨k, hlt⟩], by omega, by simp, by rw [HM.out, List.map_append, HPRE.out]; rfl, hJ3, (HKP.out.trans ((KpB.of_below (below_drew1 (Below.refl _ _)) (by omega) hnw).trans (KpB.of_below HB1.out (by simpa using (by omega : H ≤ wr.heap.size)) (by simpa using hnw)))).trans hk3, Nat.le_trans (Nat.le_trans hnw HB1.out.size) hk3.below.size⟩
                  case measure => simp [intOf]; omega
                · refine hK _ _ ?_; clear hK K
                  refine wpAnyIn_ready (rs := [10]) (by kernel_rfl) (by simp) ?_
                  refine AllReadyIn.cons rfl (fun K hK => ?_) AllReadyIn.nil
                  go_simp
                  refine hK _ _ ?_; clear hK K
                  refine wpAnyIn_ready (rs := [11]) (by kernel_rfl) (by simp) ?_
                  refine AllReadyIn.cons rfl (fun K hK => ?_) AllReadyIn.nil
                  go_simp
                  refine hK _ _ ?_; clear hK K
                  refine wpAnyIn_done (by kernel_rfl) ?_ _
                  gi_wp2
                  refine bodyPost_ret (results_none rfl _ _ _) rfl ?_
                  exact ⟨⟨_, rfl⟩, .inr ⟨pre ++ [⟨k, hlt⟩], ⟨k + 1, by omega, by rw [HM.out, List.map_append, HPRE.out]; rfl⟩, hJx3⟩⟩
      · have hE : (staV l o k == s) = false := beq_eq_false_iff_ne.mpr he
        have HM := Lib.hid (inN_miss (l := l) (o := o) (s := s) (k := k) he)
        obtain ⟨sv, hsv⟩ : ∃ sv, staV l o k = sv := ⟨_, rfl⟩
        have ST := Aside0.mk (state_any A c l br off ops o (k : Int) wr.drew HCR.out)
        rw [hsv] at hE ST
        clear he
        gi_wp2
        refine wpIn_region_any hmix ?_
        change wpAnyIn _ _ _ _ _ _ _ _ _ (World.drew _)
        refine wpAnyIn_take (i := 2) (v := ?_) rfl rfl (by kernel_rfl) (by kernel_rfl) (by kernel_rfl) (fun _ _ _ h => h) ⟨Or.inl ⟨by rfl, fun w => by go_simp; rfl⟩, fun _ => rfl⟩ ?_
        refine wpAnyIn_ready (rs := [0, 1, 4]) (by kernel_rfl) (by simp) ?_
        refine AllReadyIn.cons rfl (fun K hK => ?_) (AllReadyIn.cons rfl (fun K hK => ?_) (AllReadyIn.cons rfl (fun K hK => ?_) AllReadyIn.nil))
        · go_simp
          refine hK _ _ ?_; clear hK K
          refine wpAnyIn_ready (rs := [1, 4]) (by kernel_rfl) (by simp) ?_
          refine AllReadyIn.cons rfl (fun K hK => ?_) (AllReadyIn.cons rfl (fun K hK => ?_) AllReadyIn.nil)
          · go_simp
            refine hK _ _ ?_; clear hK K
            refine wpAnyIn_ready (rs := [3, 4]) (by kernel_rfl) (by simp) ?_
            refine AllReadyIn.cons rfl (fun K hK => ?_) (AllReadyIn.cons rfl (fun K hK => ?_) AllReadyIn.nil)
            · go_simp
              refine ⟨trivial, (callsIn_wide.2 ST.out).mono ?_⟩; rintro e w1 ⟨rfl, hb1⟩; have q3 := (hb1.cell (p := ⟨B3, 0, none⟩) (by simpa using hb3)).trans y5; have HB1 := Aside0.mk hb1; clear hb1; refine hK _ _ ?_; clear hK K
              refine wpAnyIn_ready (rs := [4]) (by kernel_rfl) (by simp) ?_
              refine AllReadyIn.cons rfl (fun K hK => ?_) AllReadyIn.nil
              · go_simp
                refine hK _ _ ?_; clear hK K
                refine wpAnyIn_ready (rs := [5]) (by kernel_rfl) (by simp) ?_
                refine AllReadyIn.cons rfl (fun K hK => ?_) AllReadyIn.nil
                go_simp
                refine hK _ _ ?_; clear hK K
                refine wpAnyIn_ready (rs := [6]) (by kernel_rfl) (by simp) ?_
                refine AllReadyIn.cons rfl (fun K hK => ?_) AllReadyIn.nil
                go_simp
                refine hK _ _ ?_; clear hK K
                refine wpAnyIn_take (i := 7) (v := undef) rfl rfl (by kernel_rfl) (by kernel_rfl) (by kernel_rfl) (fun _ _ _ h => h) ⟨Or.inr ⟨by rfl, rfl⟩, fun _ => rfl⟩ ?_
                refine wpAnyIn_ready (rs := [8]) (by kernel_rfl) (by simp) ?_
                refine AllReadyIn.cons rfl (fun K hK => ?_) AllReadyIn.nil
                go_simp
                refine hK _ _ ?_; clear hK K
                refine wpAnyIn_ready (rs := [9]) (by kernel_rfl) (by simp) ?_
                refine AllReadyIn.cons rfl (fun K hK => ?_) AllReadyIn.nil
                go_simp
                refine ⟨fun _ _ => trivial, hK _ _ ?_⟩; clear hK K
                refine wpAnyIn_ready (rs := [10]) (by kernel_rfl) (by simp) ?_
                refine AllReadyIn.cons rfl (fun K hK => ?_) AllReadyIn.nil
                go_simp
                refine hK _ _ ?_; clear hK K
                refine wpAnyIn_ready (rs := [11]) (by kernel_rfl) (by simp) ?_
                refine AllReadyIn.cons rfl (fun K hK => ?_) AllReadyIn.nil
                go_simp
                refine hK _ _ ?_; clear hK K
                refine wpAnyIn_done (by kernel_rfl) ?_ _
                gi_wp2
                go_roundw
                case rel => exact ⟨k + 1, pre, by omega, by simp, by rw [HM.out]; exact HPRE.out, HJ.out _ _ _ (HJ.out _ _ _ hJs (below_drew1 (Below.refl _ _))) HB1.out, HKP.out.trans ((KpB.of_below (below_drew1 (Below.refl _ _)) (by omega) hnw).trans (KpB.of_below HB1.out (by simpa using (by omega : H ≤ wr.heap.size)) (by simpa using hnw))), Nat.le_trans hnw HB1.out.size⟩
                case measure => simp [intOf]; omega
            · go_simp
              refine hK _ _ ?_; clear hK K
              refine wpAnyIn_ready (rs := [3]) (by kernel_rfl) (by simp) ?_
              refine AllReadyIn.cons rfl (fun K hK => ?_) AllReadyIn.nil
              · go_simp
                refine ⟨trivial, (callsIn_wide.2 ST.out).mono ?_⟩; rintro e w1 ⟨rfl, hb1⟩; have q3 := (hb1.cell (p := ⟨B3, 0, none⟩) (by simpa using hb3)).trans y5; have HB1 := Aside0.mk hb1; clear hb1; refine hK _ _ ?_; clear hK K
                refine wpAnyIn_ready (rs := [5]) (by kernel_rfl) (by simp) ?_
                refine AllReadyIn.cons rfl (fun K hK => ?_) AllReadyIn.nil
                go_simp
                refine hK _ _ ?_; clear hK K
                refine wpAnyIn_ready (rs := [6]) (by kernel_rfl) (by simp) ?_
                refine AllReadyIn.cons rfl (fun K hK => ?_) AllReadyIn.nil
                go_simp
                refine hK _ _ ?_; clear hK K
                refine wpAnyIn_take (i := 7) (v := undef) rfl rfl (by kernel_rfl) (by kernel_rfl) (by kernel_rfl) (fun _ _ _ h => h) ⟨Or.inr ⟨by rfl, rfl⟩, fun _ => rfl⟩ ?_
                refine wpAnyIn_ready (rs := [8]) (by kernel_rfl) (by simp) ?_
                refine AllReadyIn.cons rfl (fun K hK => ?_) AllReadyIn.nil
                go_simp
                refine hK _ _ ?_; clear hK K
                refine wpAnyIn_ready (rs := [9]) (by kernel_rfl) (by simp) ?_
                refine AllReadyIn.cons rfl (fun K hK => ?_) AllReadyIn.nil
                go_simp
                refine ⟨fun _ _ => trivial, hK _ _ ?_⟩; clear hK K
                refine wpAnyIn_ready (rs := [10]) (by kernel_rfl) (by simp) ?_
                refine AllReadyIn.cons rfl (fun K hK => ?_) AllReadyIn.nil
                go_simp
                refine hK _ _ ?_; clear hK K
                refine wpAnyIn_ready (rs := [11]) (by kernel_rfl) (by simp) ?_
                refine AllReadyIn.cons rfl (fun K hK => ?_) AllReadyIn.nil
                go_simp
                refine hK _ _ ?_; clear hK K
                refine wpAnyIn_done (by kernel_rfl) ?_ _
                gi_wp2
                go_roundw
                case rel => exact ⟨k + 1, pre, by omega, by simp, by rw [HM.out]; exact HPRE.out, HJ.out _ _ _ (HJ.out _ _ _ hJs (below_drew1 (Below.refl _ _))) HB1.out, HKP.out.trans ((KpB.of_below (below_drew1 (Below.refl _ _)) (by omega) hnw).trans (KpB.of_below HB1.out (by simpa using (by omega : H ≤ wr.heap.size)) (by simpa using hnw))), Nat.le_trans hnw HB1.out.size⟩
                case measure => simp [intOf]; omega
          · go_simp
            refine hK _ _ ?_; clear hK K
            refine wpAnyIn_ready (rs := [1]) (by kernel_rfl) (by simp) ?_
            refine AllReadyIn.cons rfl (fun K hK => ?_) AllReadyIn.nil
            · go_simp
              refine hK _ _ ?_; clear hK K
              refine wpAnyIn_ready (rs := [3]) (by kernel_rfl) (by simp) ?_
              refine AllReadyIn.cons rfl (fun K hK => ?_) AllReadyIn.nil
              · go_simp
                refine ⟨trivial, (callsIn_wide.2 ST.out).mono ?_⟩; rintro e w1 ⟨rfl, hb1⟩; have q3 := (hb1.cell (p := ⟨B3, 0, none⟩) (by simpa using hb3)).trans y5; have HB1 := Aside0.mk hb1; clear hb1; refine hK _ _ ?_; clear hK K
                refine wpAnyIn_ready (rs := [5]) (by kernel_rfl) (by simp) ?_
                refine AllReadyIn.cons rfl (fun K hK => ?_) AllReadyIn.nil
                go_simp
                refine hK _ _ ?_; clear hK K
                refine wpAnyIn_ready (rs := [6]) (by kernel_rfl) (by simp) ?_
                refine AllReadyIn.cons rfl (fun K hK => ?_) AllReadyIn.nil
                go_simp
                refine hK _ _ ?_; clear hK K
                refine wpAnyIn_take (i := 7) (v := undef) rfl rfl (by kernel_rfl) (by kernel_rfl) (by kernel_rfl) (fun _ _ _ h => h) ⟨Or.inr ⟨by rfl, rfl⟩, fun _ => rfl⟩ ?_
                refine wpAnyIn_ready (rs := [8]) (by kernel_rfl) (by simp) ?_
                refine AllReadyIn.cons rfl (fun K hK => ?_) AllReadyIn.nil
                go_simp
                refine hK _ _ ?_; clear hK K
                refine wpAnyIn_ready (rs := [9]) (by kernel_rfl) (by simp) ?_
                refine AllReadyIn.cons rfl (fun K hK => ?_) AllReadyIn.nil
                go_simp
                refine ⟨fun _ _ => trivial, hK _ _ ?_⟩; clear hK K
                refine wpAnyIn_ready (rs := [10]) (by kernel_rfl) (by simp) ?_
                refine AllReadyIn.cons rfl (fun K hK => ?_) AllReadyIn.nil
                go_simp
                refine hK _ _ ?_; clear hK K
                refine wpAnyIn_ready (rs := [11]) (by kernel_rfl) (by simp) ?_
                refine AllReadyIn.cons rfl (fun K hK => ?_) AllReadyIn.nil
                go_simp
                refine hK _ _ ?_; clear hK K
                refine wpAnyIn_done (by kernel_rfl) ?_ _
                gi_wp2
                go_roundw
                case rel => exact ⟨k + 1, pre, by omega, by simp, by rw [HM.out]; exact HPRE.out, HJ.out _ _ _ (HJ.out _ _ _ hJs (below_drew1 (Below.refl _ _))) HB1.out, HKP.out.trans ((KpB.of_below (below_drew1 (Below.refl _ _)) (by omega) hnw).trans (KpB.of_below HB1.out (by simpa using (by omega : H ≤ wr.heap.size)) (by simpa using hnw))), Nat.le_trans hnw HB1.out.size⟩
                case measure => simp [intOf]; omega
        · go_simp
          refine hK _ _ ?_; clear hK K
          refine wpAnyIn_ready (rs := [0, 4]) (by kernel_rfl) (by simp) ?_
          refine AllReadyIn.cons rfl (fun K hK => ?_) (AllReadyIn.cons rfl (fun K hK => ?_) AllReadyIn.nil)
          · go_simp
            refine hK _ _ ?_; clear hK K
            refine wpAnyIn_ready (rs := [3, 4]) (by kernel_rfl) (by simp) ?_
            refine AllReadyIn.cons rfl (fun K hK => ?_) (AllReadyIn.cons rfl (fun K hK => ?_) AllReadyIn.nil)
            · go_simp
              refine ⟨trivial, (callsIn_wide.2 ST.out).mono ?_⟩; rintro e w1 ⟨rfl, hb1⟩; have q3 := (hb1.cell (p := ⟨B3, 0, none⟩) (by simpa using hb3)).trans y5; have HB1 := Aside0.mk hb1; clear hb1; refine hK _ _ ?_; clear hK K
              refine wpAnyIn_ready (rs := [4]) (by kernel_rfl) (by simp) ?_
              refine AllReadyIn.cons rfl (fun K hK => ?_) AllReadyIn.nil
              · go_simp
                refine hK _ _ ?_; clear hK K
                refine wpAnyIn_ready (rs := [5]) (by kernel_rfl) (by simp) ?_
                refine AllReadyIn.cons rfl (fun K hK => ?_) AllReadyIn.nil
                go_simp
                refine hK _ _ ?_; clear hK K
                refine wpAnyIn_ready (rs := [6]) (by kernel_rfl) (by simp) ?_
                refine AllReadyIn.cons rfl (fun K hK => ?_) AllReadyIn.nil
                go_simp
                refine hK _ _ ?_; clear hK K
                refine wpAnyIn_take (i := 7) (v := undef) rfl rfl (by kernel_rfl) (by kernel_rfl) (by kernel_rfl) (fun _ _ _ h => h) ⟨Or.inr ⟨by rfl, rfl⟩, fun _ => rfl⟩ ?_
                refine wpAnyIn_ready (rs := [8]) (by kernel_rfl) (by simp) ?_
                refine AllReadyIn.cons rfl (fun K hK => ?_) AllReadyIn.nil
                go_simp
                refine hK _ _ ?_; clear hK K
                refine wpAnyIn_ready (rs := [9]) (by kernel_rfl) (by simp) ?_
                refine AllReadyIn.cons rfl (fun K hK => ?_) AllReadyIn.nil
                go_simp
                refine ⟨fun _ _ => trivial, hK _ _ ?_⟩; clear hK K
                refine wpAnyIn_ready (rs := [10]) (by kernel_rfl) (by simp) ?_
                refine AllReadyIn.cons rfl (fun K hK => ?_) AllReadyIn.nil
                go_simp
                refine hK _ _ ?_; clear hK K
                refine wpAnyIn_ready (rs := [11]) (by kernel_rfl) (by simp) ?_
                refine AllReadyIn.cons rfl (fun K hK => ?_) AllReadyIn.nil
                go_simp
                refine hK _ _ ?_; clear hK K
                refine wpAnyIn_done (by kernel_rfl) ?_ _
                gi_wp2
                go_roundw
                case rel => exact ⟨k + 1, pre, by omega, by simp, by rw [HM.out]; exact HPRE.out, HJ.out _ _ _ (HJ.out _ _ _ hJs (below_drew1 (Below.refl _ _))) HB1.out, HKP.out.trans ((KpB.of_below (below_drew1 (Below.refl _ _)) (by omega) hnw).trans (KpB.of_below HB1.out (by simpa using (by omega : H ≤ wr.heap.size)) (by simpa using hnw))), Nat.le_trans hnw HB1.out.size⟩
                case measure => simp [intOf]; omega
            · go_simp
              refine hK _ _ ?_; clear hK K
              refine wpAnyIn_ready (rs := [3]) (by kernel_rfl) (by simp) ?_
              refine AllReadyIn.cons rfl (fun K hK => ?_) AllReadyIn.nil
              · go_simp
                refine ⟨trivial, (callsIn_wide.2 ST.out).mono ?_⟩; rintro e w1 ⟨rfl, hb1⟩; have q3 := (hb1.cell (p := ⟨B3, 0, none⟩) (by simpa using hb3)).trans y5; have HB1 := Aside0.mk hb1; clear hb1; refine hK _ _ ?_; clear hK K
                refine wpAnyIn_ready (rs := [5]) (by kernel_rfl) (by simp) ?_
                refine AllReadyIn.cons rfl (fun K hK => ?_) AllReadyIn.nil
                go_simp
                refine hK _ _ ?_; clear hK K
                refine wpAnyIn_ready (rs := [6]) (by kernel_rfl) (by simp) ?_
                refine AllReadyIn.cons rfl (fun K hK => ?_) AllReadyIn.nil
                go_simp
                refine hK _ _ ?_; clear hK K
                refine wpAnyIn_take (i := 7) (v := undef) rfl rfl (by kernel_rfl) (by kernel_rfl) (by kernel_rfl) (fun _ _ _ h => h) ⟨Or.inr ⟨by rfl, rfl⟩, fun _ => rfl⟩ ?_
                refine wpAnyIn_ready (rs := [8]) (by kernel_rfl) (by simp) ?_
                refine AllReadyIn.cons rfl (fun K hK => ?_) AllReadyIn.nil
                go_simp
                refine hK _ _ ?_; clear hK K
                refine wpAnyIn_ready (rs := [9]) (by kernel_rfl) (by simp) ?_
                refine AllReadyIn.cons rfl (fun K hK => ?_) AllReadyIn.nil
                go_simp
                refine ⟨fun _ _ => trivial, hK _ _ ?_⟩; clear hK K
                refine wpAnyIn_ready (rs := [10]) (by kernel_rfl) (by simp) ?_
                refine AllReadyIn.cons rfl (fun K hK => ?_) AllReadyIn.nil
                go_simp
                refine hK _ _ ?_; clear hK K
                refine wpAnyIn_ready (rs := [11]) (by kernel_rfl) (by simp) ?_
                refine AllReadyIn.cons rfl (fun K hK => ?_) AllReadyIn.nil
                go_simp
                refine hK _ _ ?_; clear hK K
                refine wpAnyIn_done (by kernel_rfl) ?_ _
                gi_wp2
                go_roundw
                case rel => exact ⟨k + 1, pre, by omega, by simp, by rw [HM.out]; exact HPRE.out, HJ.out _ _ _ (HJ.out _ _ _ hJs (below_drew1 (Below.refl _ _))) HB1.out, HKP.out.trans ((KpB.of_below (below_drew1 (Below.refl _ _)) (by omega) hnw).trans (KpB.of_below HB1.out (by simpa using (by omega : H ≤ wr.heap.size)) (by simpa using hnw))), Nat.le_trans hnw HB1.out.size⟩
                case measure => simp [intOf]; omega
          · go_simp
            refine hK _ _ ?_; clear hK K
            refine wpAnyIn_ready (rs := [0]) (by kernel_rfl) (by simp) ?_
            refine AllReadyIn.cons rfl (fun K hK => ?_) AllReadyIn.nil
            · go_simp
              refine hK _ _ ?_; clear hK K
              refine wpAnyIn_ready (rs := [3]) (by kernel_rfl) (by simp) ?_
              refine AllReadyIn.cons rfl (fun K hK => ?_) AllReadyIn.nil
              · go_simp
                refine ⟨trivial, (callsIn_wide.2 ST.out).mono ?_⟩; rintro e w1 ⟨rfl, hb1⟩; have q3 := (hb1.cell (p := ⟨B3, 0, none⟩) (by simpa using hb3)).trans y5; have HB1 := Aside0.mk hb1; clear hb1; refine hK _ _ ?_; clear hK K
                refine wpAnyIn_ready (rs := [5]) (by kernel_rfl) (by simp) ?_
                refine AllReadyIn.cons rfl (fun K hK => ?_) AllReadyIn.nil
                go_simp
                refine hK _ _ ?_; clear hK K
                refine wpAnyIn_ready (rs := [6]) (by kernel_rfl) (by simp) ?_
                refine AllReadyIn.cons rfl (fun K hK => ?_) AllReadyIn.nil
                go_simp
                refine hK _ _ ?_; clear hK K
                refine wpAnyIn_take (i := 7) (v := undef) rfl rfl (by kernel_rfl) (by kernel_rfl) (by kernel_rfl) (fun _ _ _ h => h) ⟨Or.inr ⟨by rfl, rfl⟩, fun _ => rfl⟩ ?_
                refine wpAnyIn_ready (rs := [8]) (by kernel_rfl) (by simp) ?_
                refine AllReadyIn.cons rfl (fun K hK => ?_) AllReadyIn.nil
                go_simp
                refine hK _ _ ?_; clear hK K
                refine wpAnyIn_ready (rs := [9]) (by kernel_rfl) (by simp) ?_
                refine AllReadyIn.cons rfl (fun K hK => ?_) AllReadyIn.nil
                go_simp
                refine ⟨fun _ _ => trivial, hK _ _ ?_⟩; clear hK K
                refine wpAnyIn_ready (rs := [10]) (by kernel_rfl) (by simp) ?_
                refine AllReadyIn.cons rfl (fun K hK => ?_) AllReadyIn.nil
                go_simp
                refine hK _ _ ?_; clear hK K
                refine wpAnyIn_ready (rs := [11]) (by kernel_rfl) (by simp) ?_
                refine AllReadyIn.cons rfl (fun K hK => ?_) AllReadyIn.nil
                go_simp
                refine hK _ _ ?_; clear hK K
                refine wpAnyIn_done (by kernel_rfl) ?_ _
                gi_wp2
                go_roundw
                case rel => exact ⟨k + 1, pre, by omega, by simp, by rw [HM.out]; exact HPRE.out, HJ.out _ _ _ (HJ.out _ _ _ hJs (below_drew1 (Below.refl _ _))) HB1.out, HKP.out.trans ((KpB.of_below (below_drew1 (Below.refl _ _)) (by omega) hnw).trans (KpB.of_below HB1.out (by simpa using (by omega : H ≤ wr.heap.size)) (by simpa using hnw))), Nat.le_trans hnw HB1.out.size⟩
                case measure => simp [intOf]; omega
        · go_simp
          refine hK _ _ ?_; clear hK K
          refine wpAnyIn_ready (rs := [0, 1]) (by kernel_rfl) (by simp) ?_
          refine AllReadyIn.cons rfl (fun K hK => ?_) (AllReadyIn.cons rfl (fun K hK => ?_) AllReadyIn.nil)
          · go_simp
            refine hK _ _ ?_; clear hK K
            refine wpAnyIn_ready (rs := [1]) (by kernel_rfl) (by simp) ?_
            refine AllReadyIn.cons rfl (fun K hK => ?_) AllReadyIn.nil
            · go_simp
              refine hK _ _ ?_; clear hK K
              refine wpAnyIn_ready (rs := [3]) (by kernel_rfl) (by simp) ?_
              refine AllReadyIn.cons rfl (fun K hK => ?_) AllReadyIn.nil
              · go_simp
                refine ⟨trivial, (callsIn_wide.2 ST.out).mono ?_⟩; rintro e w1 ⟨rfl, hb1⟩; have q3 := (hb1.cell (p := ⟨B3, 0, none⟩) (by simpa using hb3)).trans y5; have HB1 := Aside0.mk hb1; clear hb1; refine hK _ _ ?_; clear hK K
                refine wpAnyIn_ready (rs := [5]) (by kernel_rfl) (by simp) ?_
                refine AllReadyIn.cons rfl (fun K hK => ?_) AllReadyIn.nil
                go_simp
                refine hK _ _ ?_; clear hK K
                refine wpAnyIn_ready (rs := [6]) (by kernel_rfl) (by simp) ?_
                refine AllReadyIn.cons rfl (fun K hK => ?_) AllReadyIn.nil
                go_simp
                refine hK _ _ ?_; clear hK K
                refine wpAnyIn_take (i := 7) (v := undef) rfl rfl (by kernel_rfl) (by kernel_rfl) (by kernel_rfl) (fun _ _ _ h => h) ⟨Or.inr ⟨by rfl, rfl⟩, fun _ => rfl⟩ ?_
                refine wpAnyIn_ready (rs := [8]) (by kernel_rfl) (by simp) ?_
                refine AllReadyIn.cons rfl (fun K hK => ?_) AllReadyIn.nil
                go_simp
                refine hK _ _ ?_; clear hK K
                refine wpAnyIn_ready (rs := [9]) (by kernel_rfl) (by simp) ?_
                refine AllReadyIn.cons rfl (fun K hK => ?_) AllReadyIn.nil
                go_simp
                refine ⟨fun _ _ => trivial, hK _ _ ?_⟩; clear hK K
                refine wpAnyIn_ready (rs := [10]) (by kernel_rfl) (by simp) ?_
                refine AllReadyIn.cons rfl (fun K hK => ?_) AllReadyIn.nil
                go_simp
                refine hK _ _ ?_; clear hK K
                refine wpAnyIn_ready (rs := [11]) (by kernel_rfl) (by simp) ?_
                refine AllReadyIn.cons rfl (fun K hK => ?_) AllReadyIn.nil
                go_simp
                refine hK _ _ ?_; clear hK K
                refine wpAnyIn_done (by kernel_rfl) ?_ _
                gi_wp2
                go_roundw
                case rel => exact ⟨k + 1, pre, by omega, by simp, by rw [HM.out]; exact HPRE.out, HJ.out _ _ _ (HJ.out _ _ _ hJs (below_drew1 (Below.refl _ _))) HB1.out, HKP.out.trans ((KpB.of_below (below_drew1 (Below.refl _ _)) (by omega) hnw).trans (KpB.of_below HB1.out (by simpa using (by omega : H ≤ wr.heap.size)) (by simpa using hnw))), Nat.le_trans hnw HB1.out.size⟩
                case measure => simp [intOf]; omega
          · go_simp
            refine hK _ _ ?_; clear hK K
            refine wpAnyIn_ready (rs := [0]) (by kernel_rfl) (by simp) ?_
            refine AllReadyIn.cons rfl (fun K hK => ?_) AllReadyIn.nil
            · go_simp
              refine hK _ _ ?_; clear hK K
              refine wpAnyIn_ready (rs := [3]) (by kernel_rfl) (by simp) ?_
              refine AllReadyIn.cons rfl (fun K hK => ?_) AllReadyIn.nil
              · go_simp
                refine ⟨trivial, (callsIn_wide.2 ST.out).mono ?_⟩; rintro e w1 ⟨rfl, hb1⟩; have q3 := (hb1.cell (p := ⟨B3, 0, none⟩) (by simpa using hb3)).trans y5; have HB1 := Aside0.mk hb1; clear hb1; refine hK _ _ ?_; clear hK K
                refine wpAnyIn_ready (rs := [5]) (by kernel_rfl) (by simp) ?_
                refine AllReadyIn.cons rfl (fun K hK => ?_) AllReadyIn.nil
                go_simp
                refine hK _ _ ?_; clear hK K
                refine wpAnyIn_ready (rs := [6]) (by kernel_rfl) (by simp) ?_
                refine AllReadyIn.cons rfl (fun K hK => ?_) AllReadyIn.nil
                go_simp
                refine hK _ _ ?_; clear hK K
                refine wpAnyIn_take (i := 7) (v := undef) rfl rfl (by kernel_rfl) (by kernel_rfl) (by kernel_rfl) (fun _ _ _ h => h) ⟨Or.inr ⟨by rfl, rfl⟩, fun _ => rfl⟩ ?_
                refine wpAnyIn_ready (rs := [8]) (by kernel_rfl) (by simp) ?_
                refine AllReadyIn.cons rfl (fun K hK => ?_) AllReadyIn.nil
                go_simp
                refine hK _ _ ?_; clear hK K
                refine wpAnyIn_ready (rs := [9]) (by kernel_rfl) (by simp) ?_
                refine AllReadyIn.cons rfl (fun K hK => ?_) AllReadyIn.nil
                go_simp
                refine ⟨fun _ _ => trivial, hK _ _ ?_⟩; clear hK K
                refine wpAnyIn_ready (rs := [10]) (by kernel_rfl) (by simp) ?_
                refine AllReadyIn.cons rfl (fun K hK => ?_) AllReadyIn.nil
                go_simp
                refine hK _ _ ?_; clear hK K
                refine wpAnyIn_ready (rs := [11]) (by kernel_rfl) (by simp) ?_
                refine AllReadyIn.cons rfl (fun K hK => ?_) AllReadyIn.nil
                go_simp
                refine hK _ _ ?_; clear hK K
                refine wpAnyIn_done (by kernel_rfl) ?_ _
                gi_wp2
                go_roundw
                case rel => exact ⟨k + 1, pre, by omega, by simp, by rw [HM.out]; exact HPRE.out, HJ.out _ _ _ (HJ.out _ _ _ hJs (below_drew1 (Below.refl _ _))) HB1.out, HKP.out.trans ((KpB.of_below (below_drew1 (Below.refl _ _)) (by omega) hnw).trans (KpB.of_below HB1.out (by simpa using (by omega : H ≤ wr.heap.size)) (by simpa using hnw))), Nat.le_trans hnw HB1.out.size⟩
                case measure => simp [intOf]; omega
    · obtain rfl : k = l.length := by omega
      gi_wp2
      go_end0
      exact ⟨⟨_, rfl⟩, .inl ⟨_, hpre, hJs⟩⟩
end Go.Proofs.Ytnbhkogjamdfhaa.X
