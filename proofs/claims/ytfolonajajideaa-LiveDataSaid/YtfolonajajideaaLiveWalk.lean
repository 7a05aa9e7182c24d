/- The walk of the library's Collect over whatever iterator of whole numbers, and of the program's iterator over the places where a list has a number. -/
import Derived.Test.YtfolonajajideaaWZ
import Derived.Test.YtfolonajajideaaProg
import Derived.RangeFuncBox
import Derived.RangeFuncLeaves
import Derived.RangeFuncBound
import Derived.RangeFuncCalls
import Derived.Shelf.Abstract
import Derived.WalkKit
import Derived.OwnWalkIn
import Derived.TacticsInMore
import Derived.LoopNIn
import Derived.LoopIn
import Derived.Maps.AppendAt
import Derived.Lib.Hide
namespace Go.Proofs.Ytfolonajajideaa.X
open Go.RowKit Go.Shelf Go.Proofs.YtfolonajajideaaW.PrintWords Go.Proofs.YtfolonajajideaaW.PrintLast
attribute [local go_sem] Oper.semAt_some

theorem info_int : (Try.prog.info? 3).map (fun i => (i.zero, i.size, i.bytes)) = some (some (.int .i64 0), 1, 8) := by kernel_rfl

set_option maxRecDepth 100000 in
set_option maxHeartbeats 2000000 in
/-- slices.AppendSeq(nil, seq): a slice that owns what has come. -/
theorem appendSeq_in (gf : Nat) (eg : ∀ args w, (callFunc gf args).run Try.prog w = .ok (.enter gf args) w) (lb : Array Value) (S Sp : List Int → Prop) (N : Nat) (hN : N ≤ maxLen) (hNb : N * 8 ≤ 140737488355328) (w : World)
    (hseq : SeqStopsK Fence.wide 4 Try.prog gf lb (fun x : Int => #[Value.int .i64 x]) (Below w.heap.size) S Sp N w) :
    CallsIn Fence.wide 5 Try.prog 45 #[.slice none 0 0, .func (.func gf) #[] lb] w fun e W' => ∃ v ys, S ys ∧ e = .returned v ∧ W'.ownsRow w.heap.size 3 1 v ys.length (ys.map (Value.int .i64)) ∧ Below w.heap.size w W' := by
  obtain ⟨i0, hi, hz0, hz1, hz2⟩ := info_parts info_int
  refine callsIn_of_wp_marks Try.func45 rfl trivial ?_ rfl
  simp only [Try.ntmps45, List.size_toArray, List.length_cons, List.length_nil, Nat.reduceAdd, Nat.reduceSub, Array.replicate_succ, Array.replicate_zero, List.push_toArray, List.append_toArray, List.nil_append, List.cons_append]
  gi_wp2
  have bO := Boxed.new w 22 (.slice none 0 0)
  have hB0 : Below w.heap.size w (w.alloc (.cells #[.slice none 0 0] 22)) := (Below.refl _ w).alloc (Nat.le_refl _) _
  refine wpIn_rangeFunc_ownG (w0 := w) rfl (by omega) (gf := gf) (lb := lb) rfl trivial eg
    hseq belowK_t (belowK_b (by simp)) hB0 (fun _ => rfl)
    (fun pre W => (∃ v, Boxed W w.heap.size 22 v ∧ W.ownsRow w.heap.size 3 1 v pre.length (pre.map (Value.int .i64)) ∧ True) ∧ Below w.heap.size w W)
    (fun _ _ _ => False)
    (OwnFrom.and (Own.from (holdsRow_own w.heap.size w.heap.size 22 3 1 (fun pre : List Int => pre.length) (fun pre : List Int => pre.map (Value.int .i64)) (fun _ _ => True)) _) (ownFrom_below (Nat.le_refl _) (by simp)))
    (fun _ _ _ _ _ hs _ _ => hs)
    ⟨⟨_, bO, World.ownsRow_nil _ _ _ _, trivial⟩, hB0⟩
    (fun x => { tmps := #[.slice none 0 0, .func (.func gf) #[] lb, .pointer (some ⟨w.heap.size, 0, none⟩), undef, .slice none 0 0, .int .i64 x, .func (.func gf) #[] lb, .int .i64 x, undef, undef, undef, undef, undef], defers := [] }) ?assign ?body ?done ?stop
  case assign =>
    intro l x W K hK
    gi_wp2
    exact hK
  case body =>
    rintro l pre x W ⟨⟨v, hv, hrow, -⟩, hB⟩ hlt
    have hc := hv.cell
    gi_wp2_with (gi_at_builtin; refine wpListIn_append_own _ rfl _ _ 22 rfl w.heap.size 3 i0 (.int .i64 0) 1 8 Try.underlying22 hi hz0 hz1 hz2 rfl (by decide) _ _ _ rfl (hrow.alloc _) ⟨W.heap.size, 0, none⟩ 1 1 [.int .i64 x] rfl rfl (cell_one_new _ _ _) (by simp [Value.oneCell']) (by omega) (by omega) (by have := hB.size; simp; omega) ?_; intro v' w1 hown' hgrow _; obtain ⟨g', cap', rfl⟩ := ownsRow_succ hown'; obtain ⟨hv1, hv2, hr2, hk2, hb2⟩ := hv.appended (by decide) hrow hB.size (Nat.le_refl _) hown' hgrow; have hc1 := hv1.cell; have hf1 := hv1.frozen)
    exact ⟨hk2.from _, hb2, ⟨_, hv2, by simpa using hr2, trivial⟩, hB.trans hb2⟩
  case done =>
    rintro D ys W hD hys ⟨⟨v, hv, hrow, -⟩, hB⟩ hK
    have hc := hv.cell
    gi_wp2
    refine ⟨by simp, .inl ⟨_, _, rfl, run_takeDeferred hK, ?_⟩⟩
    exact ⟨_, results_tmp rfl _ _ _, v, ys, hys, rfl, ownsRow_putObj hrow _ hK rfl, hB.trans (belowK_b (w := w) (Nat.le_refl _) W D _ _ (by simp at hD; omega) hK rfl rfl)⟩
  case stop =>
    rintro D c pre W _ _ h _
    exact h.elim

set_option maxRecDepth 100000 in
/-- slices.Collect(seq). -/
theorem collect_in (gf : Nat) (eg : ∀ args w, (callFunc gf args).run Try.prog w = .ok (.enter gf args) w) (lb : Array Value) (S Sp : List Int → Prop) (N : Nat) (hN : N ≤ maxLen) (hNb : N * 8 ≤ 140737488355328) (w : World)
    (hseq : SeqStopsK Fence.wide 4 Try.prog gf lb (fun x : Int => #[Value.int .i64 x]) (Below w.heap.size) S Sp N w) :
    Calls Try.prog 34 #[.func (.func gf) #[] lb] w fun e W' => ∃ v ys, S ys ∧ e = .returned v ∧ W'.ownsRow w.heap.size 3 1 v ys.length (ys.map (Value.int .i64)) ∧ Below w.heap.size w W' := by
  go_enter Try.func34, Try.ntmps34
  go_wp2_with (go_at_call 45; refine (callsIn_wide.1 (appendSeq_in gf eg lb S Sp N hN hNb _ hseq)).mono ?_; rintro e w1 ⟨v, ys, hys, rfl, ho, hb⟩)
  go_ret
  exact ⟨v, ys, hys, rfl, ho, hb⟩

/-! live.which -/
/-- The places, up to k, where zs has p. -/
def idxTo (zs : List Int) (p : Int) (k : Nat) : List Int := ((List.range k).filter fun i => decide (0 ≤ p) && (zs[i]?.getD 0 == p)).map fun (i : Nat) => (i : Int)
theorem idxTo_hit {zs : List Int} {p : Int} {k : Nat} (h0 : 0 ≤ p) (h : zs[k]?.getD 0 = p) : idxTo zs p (k + 1) = idxTo zs p k ++ [(k : Int)] := by
  unfold idxTo
  rw [List.range_succ, List.filter_append, List.map_append]
  simp [h0, h]
theorem idxTo_miss {zs : List Int} {p : Int} {k : Nat} (h : ¬ (0 ≤ p ∧ zs[k]?.getD 0 = p)) : idxTo zs p (k + 1) = idxTo zs p k := by
  unfold idxTo
  rw [List.range_succ, List.filter_append, List.map_append]
  have : (decide (0 ≤ p) && (zs[k]?.getD 0 == p)) = false := by
    rw [Bool.eq_false_iff]
    intro h2
    rw [Bool.and_eq_true, decide_eq_true_iff, beq_iff_eq] at h2
    exact h h2
  simp [this]
theorem idxTo_length (zs : List Int) (p : Int) (k : Nat) : (idxTo zs p k).length ≤ k := by
  unfold idxTo
  rw [List.length_map]
  have := List.length_filter_le (fun i => decide (0 ≤ p) && (zs[i]?.getD 0 == p)) (List.range k)
  rw [List.length_range] at this
  exact this

set_option maxRecDepth 100000 in
set_option maxHeartbeats 2000000 in
theorem which1_in (n : Nat) (l B1 B2 n₀ : Nat) (A : Option Addr) (len cap : Nat) (zs : List Int) (p : Int) (hlen : len ≤ 9223372036854775807) (J Jx : List Int → World → Prop)
    (hY : ∀ pre x W, J pre W → pre.length < len → YieldAt Fence.wide n Try.prog l #[.int .i64 x] W fun e W' =>
      (e = .returned (.bool true) ∧ J (pre ++ [x]) W' ∧ Below n₀ W W') ∨ (e = .returned (.bool false) ∧ Jx (pre ++ [x]) W'))
    (W : World) (hB1 : W.cell? ⟨B1, 0, none⟩ = some (.slice A len cap)) (hB2 : W.cell? ⟨B2, 0, none⟩ = some (.int .i64 p)) (hl2 : B2 < n₀)
    (hc : 0 < len → ∃ ad, A = some ad ∧ ad.block < n₀ ∧ ∀ j, j < len → W.cell? (ad.add j) = some (.int .i64 (zs[j]?.getD 0))) (h0 : J [] W) :
    CallsIn Fence.wide (n + 1) Try.prog 46 #[.func (.yield l) #[] #[], .pointer (some ⟨B1, 0, none⟩), .pointer (some ⟨B2, 0, none⟩)] W fun e W' => (∃ v, e = .returned v) ∧
      ((∃ ys, ys = idxTo zs p len ∧ J ys W') ∨ (∃ pre, True ∧ Jx pre W')) := by
  rcases Nat.eq_zero_or_pos len with hz | hpos
  · subst hz
    refine callsIn_of_wp Try.func46 rfl trivial ?_ rfl
    simp only [Try.ntmps46, List.size_toArray, List.length_cons, List.length_nil, Nat.reduceAdd, Nat.reduceSub, Array.replicate_succ, Array.replicate_zero, List.push_toArray, List.append_toArray, List.nil_append, List.cons_append]
    gi_wp2
    gi_loopw [8] (fun i wr => i = .int .i64 0 ∧ J [] wr) (fun _ _ => 0)
    case atStart => exact ⟨rfl, h0⟩
    case round =>
      obtain ⟨rfl, hJs⟩ := hrel
      gi_wp2
      go_end0
      exact ⟨⟨_, rfl⟩, .inl ⟨_, rfl, hJs⟩⟩
  · obtain ⟨ad, rfl, had, hcs⟩ := hc hpos
    refine callsIn_of_wp Try.func46 rfl trivial ?_ rfl
    simp only [Try.ntmps46, List.size_toArray, List.length_cons, List.length_nil, Nat.reduceAdd, Nat.reduceSub, Array.replicate_succ, Array.replicate_zero, List.push_toArray, List.append_toArray, List.nil_append, List.cons_append]
    gi_wp2
    gi_loopw [8] (fun i wr => ∃ k : Nat, k ≤ len ∧ i = .int .i64 k ∧ J (idxTo zs p k) wr ∧ Below n₀ W wr)
      (fun i _ => len - (intOf i).toNat)
    case atStart => exact ⟨0, Nat.zero_le _, rfl, h0, Below.refl _ _⟩
    case round =>
      obtain ⟨k, hk, rfl, hJs, hnx⟩ := hrel
      have hpl := idxTo_length zs p k
      have hp2 : wr.cell? ⟨B2, 0, none⟩ = some (.int .i64 p) := (hnx.cell (p := ⟨B2, 0, none⟩) hl2).trans hB2
      by_cases hlt : k < len
      · have hck : wr.cell? (ad.add k) = some (.int .i64 (zs[k]?.getD 0)) := (hnx.cell (by rw [add_block]; exact had)).trans (hcs k hlt)
        obtain ⟨fn, tmps, assign, body, hy, hR⟩ := hY _ (k : Int) wr hJs (by omega)
        by_cases hp : 0 ≤ p
        · by_cases he : zs[k]?.getD 0 = p
          · have hb1 : decide (0 ≤ p) = true := decide_eq_true hp
            have hb2 : (zs[k]?.getD 0 == p) = true := beq_iff_eq.mpr he
            have HE := Lib.hid (idxTo_hit (zs := zs) hp he)
            clear he
            gi_wp2
            refine hR.mono ?_
            rintro e W3 (⟨rfl, hJ3, hk3⟩ | ⟨rfl, hJx3⟩)
            · gi_wp2
              go_roundw
              case rel => exact ⟨k + 1, by omega, by simp, by rw [HE.out]; exact hJ3, hnx.trans hk3⟩
              case measure => simp [intOf]; omega
            · gi_wp2
              refine bodyPost_ret (results_none rfl _ _ _) rfl ?_
              exact ⟨⟨_, rfl⟩, .inr ⟨_, trivial, hJx3⟩⟩
          · have hb1 : decide (0 ≤ p) = true := decide_eq_true hp
            have hb2 : (zs[k]?.getD 0 == p) = false := beq_eq_false_iff_ne.mpr he
            have HE := Lib.hid (idxTo_miss (zs := zs) (p := p) (k := k) (fun h => he h.2))
            clear he hR hy
            gi_wp2
            refine ⟨fun _ h => (by cases h), ?_⟩
            gi_wp2
            go_roundw
            case rel => exact ⟨k + 1, by omega, by simp, by rw [HE.out]; exact hJs, hnx⟩
            case measure => simp [intOf]; omega
        · have hb1 : decide (0 ≤ p) = false := decide_eq_false hp
          have HE := Lib.hid (idxTo_miss (zs := zs) (p := p) (k := k) (fun h => hp h.1))
          clear hR hy
          gi_wp2
          refine ⟨fun _ h => (by cases h), ?_⟩
          gi_wp2
          go_roundw
          case rel => exact ⟨k + 1, by omega, by simp, by rw [HE.out]; exact hJs, hnx⟩
          case measure => simp [intOf]; omega
      · obtain rfl : k = len := by omega
        gi_wp2
        go_end0
        exact ⟨⟨_, rfl⟩, .inl ⟨_, rfl, hJs⟩⟩

/-- What live.which hands back. -/
theorem which_stops (B1 B2 : Nat) (A : Option Addr) (len cap : Nat) (zs : List Int) (p : Int) (hlen : len ≤ 9223372036854775807) (w : World)
    (hB1 : w.cell? ⟨B1, 0, none⟩ = some (.slice A len cap)) (hB2 : w.cell? ⟨B2, 0, none⟩ = some (.int .i64 p)) (hl1 : B1 < w.heap.size) (hl2 : B2 < w.heap.size)
    (hc : 0 < len → ∃ ad, A = some ad ∧ ad.block < w.heap.size ∧ ∀ j, j < len → w.cell? (ad.add j) = some (.int .i64 (zs[j]?.getD 0))) :
    SeqStopsK Fence.wide 4 Try.prog 46 #[.pointer (some ⟨B1, 0, none⟩), .pointer (some ⟨B2, 0, none⟩)] (fun x : Int => #[Value.int .i64 x]) (Below w.heap.size)
      (fun ys => ys = idxTo zs p len) (fun _ => True) len w := fun l J Jx W hW _ _ hY h0 =>
  which1_in 3 l B1 B2 w.heap.size A len cap zs p hlen J Jx hY W ((hW.cell (p := ⟨B1, 0, none⟩) hl1).trans hB1) ((hW.cell (p := ⟨B2, 0, none⟩) hl2).trans hB2) hl2
    (fun h => by
      obtain ⟨ad, e, hb, hcs⟩ := hc h
      exact ⟨ad, e, hb, fun j hj => (hW.cell (by rw [add_block]; exact hb)).trans (hcs j hj)⟩) h0
set_option maxRecDepth 100000 in
/-- live.which(l, place): both boxed; the function value captures the boxes. -/
theorem which_in (A : Option Addr) (len cap : Nat) (p : Int) (w : World) :
    Calls Try.prog 35 #[.slice A len cap, .int .i64 p] w fun e w' => e = .returned (.func (.func 46) #[] #[.pointer (some ⟨w.heap.size, 0, none⟩), .pointer (some ⟨w.heap.size + 1, 0, none⟩)]) ∧ w' = (w.alloc (.cells #[.slice A len cap] 22)).alloc (.cells #[.int .i64 p] 3) := by
  go_enter Try.func35, Try.ntmps35
  go_wp2
  go_ret
  exact ⟨rfl, rfl⟩
/-- slices.Collect(which(l, place)) -/
theorem collect_which (A : Option Addr) (len cap : Nat) (zs : List Int) (p : Int) (w0 w : World) (hz : ReadsInt w0 .i64 A len zs) (hb : Below w0.heap.size w0 w) (hs : len * 8 ≤ 140737488355328) (W : World) (B1 B2 : Nat) (hB1 : B1 = w.heap.size) (hB2 : B2 = w.heap.size + 1)
    (hW : W = (w.alloc (.cells #[.slice A len cap] 22)).alloc (.cells #[.int .i64 p] 3)) :
    Calls Try.prog 34 #[.func (.func 46) #[] #[.pointer (some ⟨B1, 0, none⟩), .pointer (some ⟨B2, 0, none⟩)]] W fun e W' => ∃ v, e = .returned v ∧ W'.ownsRow W.heap.size 3 1 v (idxTo zs p len).length ((idxTo zs p len).map (Value.int .i64)) ∧ Below W.heap.size W W' := by
  subst hB1 hB2
  have b1 := (Boxed.new w 22 (.slice A len cap)).alloc (.cells #[.int .i64 p] 3)
  have b2 := Boxed.new (w.alloc (.cells #[.slice A len cap] 22)) 3 (.int .i64 p)
  rw [World.size_alloc] at b2
  rw [← hW] at b1 b2
  have hsz : W.heap.size = w.heap.size + 2 := by rw [hW]; simp
  have hbW : Below w0.heap.size w0 W := by rw [hW]; exact (hb.alloc hb.size _).alloc (by have := hb.size; simp; omega) _
  have hst := which_stops w.heap.size (w.heap.size + 1) A len cap zs p (by omega) W b1.cell b2.cell (by omega) (by omega) (fun h => by
    obtain ⟨ad, e, hc⟩ := hz.2.2 h
    have hlt := fun j hj => World.block_lt_of_cell? w0 _ (hc j hj)
    refine ⟨ad, e, ?_, fun j hj => ?_⟩
    · have := hlt 0 h
      rw [add_block] at this
      have := hb.size
      omega
    · rw [(hbW.cell (by exact hlt j hj)), hc j hj, List.getD_eq_getElem?_getD])
  refine (collect_in _ (enters_of Try.func46 (by kernel_rfl) rfl) _ _ _ len (by unfold maxLen; omega) hs W hst).mono ?_
  rintro e W' ⟨v, ys, rfl, rfl, ho, hB⟩
  exact ⟨v, rfl, ho, hB⟩

end Go.Proofs.Ytfolonajajideaa.X
