/- states.Many and states.Pick, walked over the blocks in a state. -/
import Derived.Test.YtnbhkogjamdfhaaStaIter
namespace Go.Proofs.Ytnbhkogjamdfhaa.X
open Go.RowKit Go.Shelf Go.Proofs.Ytnbhkogjamdfhaa.PAll Go.Proofs.YtnbhkogjamdfhaaW.PrintWords Go.Proofs.YtnbhkogjamdfhaaW.PrintLast Go.Proofs.YtnbhkogjamdfhaaW.PrintMore
attribute [local go_sem] Oper.semAt_some
set_option linter.unusedVariables false
set_option linter.unusedSimpArgs false
theorem KpB.of_grown {H B n : Nat} {W W' : World} {row : Option Nat} (hg : W.grownBy W' row) (hr : ∀ r, row = some r → n ≤ r) (hH : H ≤ n) (hn : n ≤ W.heap.size) : KpB H B n W W' :=
  ⟨⟨hg.1, hg.2, hg.3, hg.4, fun k hk => hg.block k (by omega) (fun e => by have := hr k e.symm; omega)⟩, fun k hk _ => hg.block k (by omega) (fun e => by have := hr k e.symm; omega)⟩
theorem KpB.set {H B n : Nat} (hHB : H ≤ B) (W : World) (i : Nat) (v : Value) : KpB H B n W (W.setCell ⟨B, i, none⟩ v) := ⟨⟨rfl, rfl, rfl, (KeepsOthers.setCell W ⟨B, i, none⟩ v).size, fun k hk => Below.heap_setCell W ⟨B, i, none⟩ v k (by show k ≠ B; omega)⟩, fun k _ hk => Below.heap_setCell W ⟨B, i, none⟩ v k hk⟩
theorem grown_of_below {W W' : World} (h : Below W.heap.size W W') : W.grownBy W' none := ⟨h.1, h.2, h.3, h.4, fun k hk _ => h.5 k hk⟩
/-- What states.In hands back. -/
theorem in_stops (B B1 B2 B3 : Nat) (A : Option Addr) (c : Nat) (l : List Blk) (br off : Bool) (ops o s : Int) (w0 w : World) (hC : Kd.C kB w0 A l.length l) (hb0 : Below w0.heap.size w0 w) (hHB : w0.heap.size ≤ B) (hB1 : B1 < w.heap.size ∧ B1 ≠ B) (hB2 : B2 < w.heap.size ∧ B2 ≠ B) (hB3 : B3 < w.heap.size ∧ B3 ≠ B)
    (hc1 : w.heap[B1]? = some (.cells #[.slice A l.length c, .bool br, .bool off, .int .i64 ops] 26 (0, 0))) (hc2 : w.heap[B2]? = some (.cells #[.int .i64 o] 3 (0, 0))) (hc3 : w.heap[B3]? = some (.cells #[.int .i64 s] 3 (0, 0))) :
    SeqStopsK Fence.wide 4 Try.prog 26 #[.pointer (some ⟨B1, 0, none⟩), .pointer (some ⟨B2, 0, none⟩), .pointer (some ⟨B3, 0, none⟩)] (fun x : Fin l.length => #[Value.int .i64 x.val]) (KpB w0.heap.size B w.heap.size)
      (fun ys => ys.map Fin.val = inN l o s l.length) (fun pre => ∃ k, k ≤ l.length ∧ pre.map Fin.val = inN l o s k) l.length w := fun lp J Jx W hW hJ _ hY h0 =>
  in1_in 3 lp w0.heap.size B B1 B2 B3 w.heap.size hHB hB1 hB2 hB3 A c l br off ops o s w0 hC (Nat.le_refl _) hb0.size J Jx (fun pre W W' h hb => hJ pre W W' none h (grown_of_below hb) (fun r e => by cases e)) hY W
    (hb0.trans ⟨hW.1, hW.2, hW.3, hW.4, fun k hk => hW.5 k (by have := hb0.size; omega)⟩) hW.size ((hW.block _ hB1.1).trans hc1) ((hW.block _ hB2.1).trans hc2) ((hW.block _ hB3.1).trans hc3) h0
set_option maxRecDepth 100000 in
set_option maxHeartbeats 2000000 in
theorem many_any (A : Option Addr) (c : Nat) (l : List Blk) (br off : Bool) (ops o s : Int) (w : World) (hC : Kd.C kB w A l.length l) :
    Calls Try.prog 8 #[.agg #[.slice A l.length c, .bool br, .bool off, .int .i64 ops], .int .i64 o, .int .i64 s] w fun e w' => e = .returned (.int .i64 ((inN l o s l.length).length : Nat)) ∧ Below w.heap.size w w' := by
  have hlm : l.length ≤ 9223372036854775807 := hC.2.1
  obtain ⟨w2, hw2⟩ : ∃ w2 : World, (w.alloc (.cells #[.slice A l.length c, .bool br, .bool off, .int .i64 ops] 26)).alloc (.cells #[.int .i64 0] 3) = w2 := ⟨_, rfl⟩
  obtain ⟨k1, kn, hs2, hb2⟩ : w2.heap[w.heap.size]? = some (.cells #[.slice A l.length c, .bool br, .bool off, .int .i64 ops] 26 (0, 0)) ∧ w2.heap[w.heap.size + 1]? = some (.cells #[.int .i64 0] 3 (0, 0)) ∧ w2.heap.size = w.heap.size + 2 ∧ Below w.heap.size w w2 := by
    subst hw2
    refine ⟨blk_alloc (alloc_at w _) _, ?_, by simp, ((Below.refl _ w).alloc (Nat.le_refl _) _).alloc (by simp) _⟩
    have := alloc_at (w.alloc (.cells #[.slice A l.length c, .bool br, .bool off, .int .i64 ops] 26)) (.cells #[.int .i64 0] 3)
    simpa using this
  obtain ⟨w1, hw1⟩ : ∃ w1 : World, ((w2.alloc (.cells #[.slice A l.length c, .bool br, .bool off, .int .i64 ops] 26)).alloc (.cells #[.int .i64 o] 3)).alloc (.cells #[.int .i64 s] 3) = w1 := ⟨_, rfl⟩
  have hin := in_in (.slice A l.length c) br off ops o s w2
  rw [hw1] at hin
  obtain ⟨m1, m2, m3, hs1, hb1⟩ : w1.heap[w2.heap.size]? = some (.cells #[.slice A l.length c, .bool br, .bool off, .int .i64 ops] 26 (0, 0)) ∧ w1.heap[w2.heap.size + 1]? = some (.cells #[.int .i64 o] 3 (0, 0)) ∧ w1.heap[w2.heap.size + 2]? = some (.cells #[.int .i64 s] 3 (0, 0)) ∧ w1.heap.size = w.heap.size + 5 ∧ Below w2.heap.size w2 w1 := by
    subst hw1
    refine ⟨blk_alloc (blk_alloc (alloc_at w2 _) _) _, ?_, ?_, by simp [hs2], (((Below.refl _ w2).alloc (Nat.le_refl _) _).alloc (by simp) _).alloc (by simp; omega) _⟩
    · have := blk_alloc (alloc_at (w2.alloc (.cells #[.slice A l.length c, .bool br, .bool off, .int .i64 ops] 26)) (.cells #[.int .i64 o] 3)) (.cells #[.int .i64 s] 3)
      simpa using this
    · have := alloc_at ((w2.alloc (.cells #[.slice A l.length c, .bool br, .bool off, .int .i64 ops] 26)).alloc (.cells #[.int .i64 o] 3)) (.cells #[.int .i64 s] 3)
      simpa using this
  have bN : Boxed w1 (w.heap.size + 1) 3 (.int .i64 0) := (hb1.block _ (by omega)).trans kn
  have hbw1 : Below w.heap.size w w1 := hb2.trans ⟨hb1.1, hb1.2, hb1.3, hb1.4, fun k hk => hb1.5 k (by omega)⟩
  rw [hs2] at m1 m2 m3 hin
  have HST := Aside0.mk (in_stops (w.heap.size + 1) (w.heap.size + 2) (w.heap.size + 2 + 1) (w.heap.size + 2 + 2) A c l br off ops o s w w1 hC hbw1 (by omega) (by omega) (by omega) (by omega) m1 m2 m3)
  have HIN := Aside0.mk hin
  have HBW1 := Aside0.mk hbw1
  have HW2 := Aside0.mk hw2
  obtain ⟨y0, y1, y2, y3, _⟩ := blk4 k1
  clear hin hbw1 m1 m2 m3 hb1 hb2 kn k1 hC hw1 hw2
  refine (callsIn_wide (n := 5)).1 ?_
  refine callsIn_of_wp_marks Try.func8 rfl trivial ?_ rfl
  simp only [Try.ntmps8, List.size_toArray, List.length_cons, List.length_nil, Nat.reduceAdd, Nat.reduceSub, Array.replicate_succ, Array.replicate_zero, List.push_toArray, List.append_toArray, List.nil_append, List.cons_append]
  have hw2 := HW2.out
  gi_wp2_with (refine ⟨trivial, (callsIn_wide.2 HIN.out).mono ?_⟩; rintro e w3 ⟨rfl, rfl⟩)
  clear hw2
  have KB : ∀ (W : World) (l_ : Nat) (o_ o' : Obj), w3.heap.size ≤ l_ → W.heap[l_]? = some o_ → o_.isCells = false → o_.isWalk = false → KpB w.heap.size (w.heap.size + 1) w3.heap.size W (W.putObj l_ o') := fun W l_ o_ o' hl hk _ _ => KpB.of_grown (grownBy_putObj' W l_ o') (fun r e => by cases e; exact hl) (by omega) (by have := (Array.getElem?_eq_some_iff.1 hk).1; omega)
  refine wpIn_rangeFunc_ownG (w0 := w3) rfl (by omega) (gf := 26) (lb := #[.pointer (some ⟨w.heap.size + 2, 0, none⟩), .pointer (some ⟨w.heap.size + 2 + 1, 0, none⟩), .pointer (some ⟨w.heap.size + 2 + 2, 0, none⟩)]) rfl trivial (fun _ _ => rfl)
    HST.out KpB.trans KB (Below.refl _ _) (fun _ => rfl)
    (fun pre W => Boxed W (w.heap.size + 1) 3 (.int .i64 (pre.length : Nat)) ∧ KpB w.heap.size (w.heap.size + 1) w3.heap.size w3 W)
    (fun _ _ _ => False)
    (fun pre W W' row ⟨hb, hk⟩ hg hr => ⟨hb.kept hg (fun e => by have := (hr _ e.symm).1; omega), hk.trans (KpB.of_grown hg (fun r e => (hr r e).1) (by omega) hk.below.size)⟩)
    (fun _ _ _ _ _ hs _ _ => hs)
    ⟨bN, KpB.refl _⟩
    (fun x => { tmps := #[.agg #[.slice A l.length c, .bool br, .bool off, .int .i64 ops], .int .i64 o, .int .i64 s, .pointer (some ⟨w.heap.size, 0, none⟩), undef, undef, .pointer (some ⟨w.heap.size + 1, 0, none⟩), .agg #[.slice A l.length c, .bool br, .bool off, .int .i64 ops], .int .i64 o, .int .i64 s, .func (.func 26) #[] #[.pointer (some ⟨w.heap.size + 2, 0, none⟩), .pointer (some ⟨w.heap.size + 2 + 1, 0, none⟩), .pointer (some ⟨w.heap.size + 2 + 2, 0, none⟩)], .int .i64 x.val, undef, undef, undef], defers := [] }) ?assign ?body ?done ?stop
  case assign =>
    intro lp x W K hK
    gi_wp2
    simpa using hK
  case body =>
    rintro lp pre x W ⟨hb, hk⟩ hlt
    have hc := hb.cell
    have hf := hb.frozen
    gi_wp2
    have hk2 : KpB w.heap.size (w.heap.size + 1) w3.heap.size W (W.setCell ⟨w.heap.size + 1, 0, none⟩ (.int .i64 ((pre.length : Nat) + 1))) := KpB.set (by omega) _ _ _
    exact ⟨(KeepsOthers.setCell W _ _).from _, hk2, by have := hb.set (.int .i64 ((pre.length : Nat) + 1)); rw [List.length_append]; simpa using this, hk.trans hk2⟩
  case done =>
    rintro D ys W hD hys ⟨hb, hk⟩ hK
    have hc := hb.cell
    have hf := hb.frozen
    gi_wp2
    have hb2 := hb.set (.int .i64 (ys.length : Nat))
    have hk2 : KpB w.heap.size (w.heap.size + 1) w3.heap.size W (W.setCell ⟨w.heap.size + 1, 0, none⟩ (.int .i64 (ys.length : Nat))) := KpB.set (by omega) _ _ _
    have hK2 := (Below.heap_setCell W ⟨w.heap.size + 1, 0, none⟩ (.int .i64 (ys.length : Nat)) D (by show D ≠ w.heap.size + 1; omega)).trans hK
    refine ⟨by simp, .inl ⟨_, _, rfl, run_takeDeferred hK2, ?_⟩⟩
    have hb3 : Boxed ((W.setCell ⟨w.heap.size + 1, 0, none⟩ (.int .i64 (ys.length : Nat))).putObj D (.deferred none)) (w.heap.size + 1) 3 (.int .i64 (ys.length : Nat)) := (World.putObj_heap_other (by omega)).trans hb2
    have hc3 := hb3.cell
    have hlen : ys.length = (inN l o s l.length).length := by rw [← hys, List.length_map]
    refine ⟨.int .i64 (ys.length : Nat), by simp [results, Try.results8, go_sem, hc3], by rw [hlen], ?_⟩
    have hk3 : KpB w.heap.size (w.heap.size + 1) w3.heap.size (W.setCell ⟨w.heap.size + 1, 0, none⟩ (.int .i64 (ys.length : Nat))) _ := KB _ D _ (.deferred none) hD hK2 rfl rfl
    exact HBW1.out.trans ((hk.trans hk2).trans hk3).below
  case stop =>
    rintro D c' pre W _ _ h _
    exact h.elim
end Go.Proofs.Ytnbhkogjamdfhaa.X
