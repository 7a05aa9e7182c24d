/- states.Pick, walked over the free blocks. -/
import Derived.Test.YtnbhkogjamdfhaaStaRound
namespace Go.Proofs.Ytnbhkogjamdfhaa.X
open Go.RowKit Go.Shelf Go.Proofs.Ytnbhkogjamdfhaa.PAll Go.Proofs.YtnbhkogjamdfhaaW.PrintWords Go.Proofs.YtnbhkogjamdfhaaW.PrintLast Go.Proofs.YtnbhkogjamdfhaaW.PrintMore
attribute [local go_sem] Oper.semAt_some
set_option linter.unusedVariables false
set_option linter.unusedSimpArgs false
/-- The block of these that was erased least, the first of such. -/
def pickS (l : List Blk) (best : Int) (n : Nat) : Int := if best < 0 ∨ (rdB l n).f2 < (rdB l best).f2 then (n : Int) else best
def pickN (l : List Blk) (ns : List Nat) : Int := ns.foldl (pickS l) (-1)
theorem pickN_snoc (l : List Blk) (ns : List Nat) (n : Nat) : pickN l (ns ++ [n]) = pickS l (pickN l ns) n := by
  unfold pickN
  rw [List.foldl_append]
  rfl
theorem pickF_in (l : List Blk) : ∀ (ns : List Nat) (b : Int), (b = -1 ∨ 0 ≤ b ∧ b < l.length) → (∀ n ∈ ns, n < l.length) → (ns.foldl (pickS l) b = -1 ∨ 0 ≤ ns.foldl (pickS l) b ∧ ns.foldl (pickS l) b < l.length)
  | [], b, h, _ => h
  | n :: ns, b, h, hn => by
    rw [List.foldl_cons]
    refine pickF_in l ns _ ?_ (fun m hm => hn m (List.mem_cons_of_mem _ hm))
    have := hn n (List.mem_cons_self ..)
    unfold pickS
    split
    · omega
    · exact h
theorem pickN_in (l : List Blk) (ns : List Nat) (h : ∀ n ∈ ns, n < l.length) : pickN l ns = -1 ∨ 0 ≤ pickN l ns ∧ pickN l ns < l.length := pickF_in l ns (-1) (.inl rfl) h
theorem cell_drewN' (W : World) (n : Nat) (a : Addr) : (W.drewN n).cell? a = W.cell? a := rfl
set_option maxRecDepth 100000 in
set_option maxHeartbeats 2000000 in
theorem spick_any (A : Option Addr) (c : Nat) (l : List Blk) (br off : Bool) (ops o : Int) (w : World) (hC : Kd.C kB w A l.length l) :
    Calls Try.prog 12 #[.agg #[.slice A l.length c, .bool br, .bool off, .int .i64 ops], .int .i64 o] w fun e w' => e = .returned (.int .i64 (pickN l (inN l o 0 l.length))) ∧ Below w.heap.size w w' := by
  have hlm : l.length ≤ 9223372036854775807 := hC.2.1
  obtain ⟨w2, hw2⟩ : ∃ w2 : World, (w.alloc (.cells #[.slice A l.length c, .bool br, .bool off, .int .i64 ops] 26)).alloc (.cells #[.int .i64 (-1)] 3) = w2 := ⟨_, rfl⟩
  obtain ⟨k1, kn, hs2, hb2⟩ : w2.heap[w.heap.size]? = some (.cells #[.slice A l.length c, .bool br, .bool off, .int .i64 ops] 26 (0, 0)) ∧ w2.heap[w.heap.size + 1]? = some (.cells #[.int .i64 (-1)] 3 (0, 0)) ∧ w2.heap.size = w.heap.size + 2 ∧ Below w.heap.size w w2 := by
    subst hw2
    refine ⟨blk_alloc (alloc_at w _) _, ?_, by simp, ((Below.refl _ w).alloc (Nat.le_refl _) _).alloc (by simp) _⟩
    have := alloc_at (w.alloc (.cells #[.slice A l.length c, .bool br, .bool off, .int .i64 ops] 26)) (.cells #[.int .i64 (-1)] 3)
    simpa using this
  obtain ⟨w1, hw1⟩ : ∃ w1 : World, ((w2.alloc (.cells #[.slice A l.length c, .bool br, .bool off, .int .i64 ops] 26)).alloc (.cells #[.int .i64 o] 3)).alloc (.cells #[.int .i64 0] 3) = w1 := ⟨_, rfl⟩
  have hin := in_in (.slice A l.length c) br off ops o 0 w2
  rw [hw1] at hin
  obtain ⟨m1, m2, m3, hs1, hb1⟩ : w1.heap[w2.heap.size]? = some (.cells #[.slice A l.length c, .bool br, .bool off, .int .i64 ops] 26 (0, 0)) ∧ w1.heap[w2.heap.size + 1]? = some (.cells #[.int .i64 o] 3 (0, 0)) ∧ w1.heap[w2.heap.size + 2]? = some (.cells #[.int .i64 0] 3 (0, 0)) ∧ w1.heap.size = w.heap.size + 5 ∧ Below w2.heap.size w2 w1 := by
    subst hw1
    refine ⟨blk_alloc (blk_alloc (alloc_at w2 _) _) _, ?_, ?_, by simp [hs2], (((Below.refl _ w2).alloc (Nat.le_refl _) _).alloc (by simp) _).alloc (by simp; omega) _⟩
    · have := blk_alloc (alloc_at (w2.alloc (.cells #[.slice A l.length c, .bool br, .bool off, .int .i64 ops] 26)) (.cells #[.int .i64 o] 3)) (.cells #[.int .i64 0] 3)
      simpa using this
    · have := alloc_at ((w2.alloc (.cells #[.slice A l.length c, .bool br, .bool off, .int .i64 ops] 26)).alloc (.cells #[.int .i64 o] 3)) (.cells #[.int .i64 0] 3)
      simpa using this
  have bN : Boxed w1 (w.heap.size + 1) 3 (.int .i64 (-1)) := (hb1.block _ (by omega)).trans kn
  have hbw1 : Below w.heap.size w w1 := hb2.trans ⟨hb1.1, hb1.2, hb1.3, hb1.4, fun k hk => hb1.5 k (by omega)⟩
  rw [hs2] at m1 m2 m3 hin
  have HST := Aside0.mk (in_stops (w.heap.size + 1) (w.heap.size + 2) (w.heap.size + 2 + 1) (w.heap.size + 2 + 2) A c l br off ops o 0 w w1 hC hbw1 (by omega) (by omega) (by omega) (by omega) m1 m2 m3)
  have HIN := Aside0.mk hin
  have HBW1 := Aside0.mk hbw1
  have HW2 := Aside0.mk hw2
  obtain ⟨y0, y1, y2, y3, _⟩ := blk4 k1
  have HM0 := Aside0.mk ((hb1.block _ (by omega)).trans k1)
  have HC := Aside0.mk hC
  clear hin hbw1 m1 m2 m3 hb1 hb2 kn k1 hC hw1 hw2
  refine (callsIn_wide (n := 5)).1 ?_
  refine callsIn_of_wp_marks Try.func12 rfl trivial ?_ rfl
  simp only [Try.ntmps12, List.size_toArray, List.length_cons, List.length_nil, Nat.reduceAdd, Nat.reduceSub, Array.replicate_succ, Array.replicate_zero, List.push_toArray, List.append_toArray, List.nil_append, List.cons_append]
  have hw2 := HW2.out
  gi_wp2_with (refine ⟨trivial, (callsIn_wide.2 HIN.out).mono ?_⟩; rintro e w3 ⟨rfl, rfl⟩)
  clear hw2
  have KB : ∀ (W : World) (l_ : Nat) (o_ o' : Obj), w3.heap.size ≤ l_ → W.heap[l_]? = some o_ → o_.isCells = false → o_.isWalk = false → KpB w.heap.size (w.heap.size + 1) w3.heap.size W (W.putObj l_ o') := fun W l_ o_ o' hl hk _ _ => KpB.of_grown (grownBy_putObj' W l_ o') (fun r e => by cases e; exact hl) (by omega) (by have := (Array.getElem?_eq_some_iff.1 hk).1; omega)
  refine wpIn_rangeFunc_ownG (w0 := w3) rfl (by omega) (gf := 26) (lb := #[.pointer (some ⟨w.heap.size + 2, 0, none⟩), .pointer (some ⟨w.heap.size + 2 + 1, 0, none⟩), .pointer (some ⟨w.heap.size + 2 + 2, 0, none⟩)]) rfl trivial (fun _ _ => rfl)
    HST.out KpB.trans KB (Below.refl _ _) (fun _ => rfl)
    (fun pre W => Boxed W (w.heap.size + 1) 3 (.int .i64 (pickN l (pre.map Fin.val))) ∧ KpB w.heap.size (w.heap.size + 1) w3.heap.size w3 W)
    (fun _ _ _ => False)
    (fun pre W W' row ⟨hb, hk⟩ hg hr => ⟨hb.kept hg (fun e => by have := (hr _ e.symm).1; omega), hk.trans (KpB.of_grown hg (fun r e => (hr r e).1) (by omega) hk.below.size)⟩)
    (fun _ _ _ _ _ hs _ _ => hs)
    ⟨bN, KpB.refl _⟩
    (fun x => { tmps := #[.agg #[.slice A l.length c, .bool br, .bool off, .int .i64 ops], .int .i64 o, .pointer (some ⟨w.heap.size, 0, none⟩), undef, .int .i64 0, .pointer (some ⟨w.heap.size + 1, 0, none⟩), .int .i64 x.val, .agg #[.slice A l.length c, .bool br, .bool off, .int .i64 ops], .int .i64 o, .func (.func 26) #[] #[.pointer (some ⟨w.heap.size + 2, 0, none⟩), .pointer (some ⟨w.heap.size + 2 + 1, 0, none⟩), .pointer (some ⟨w.heap.size + 2 + 2, 0, none⟩)], .int .i64 x.val, undef, undef, undef, undef, undef, undef, undef, undef, undef, undef, undef, undef, undef, undef, undef, undef, undef, undef, undef], defers := [] }) ?assign ?body ?done ?stop
  case assign =>
    intro lp x W K hK
    gi_wp2
    simpa using hK
  case body =>
    rintro lp pre x W ⟨hb, hk⟩ hlt
    have hc := hb.cell
    have hf := hb.frozen
    have hmix : Try.prog.follows .mixedOrders = true := by kernel_rfl
    obtain ⟨q0, q1, q2, q3, _⟩ := blk4 ((hk.same _ (by omega) (by omega)).trans HM0.out)
    have hbW := HBW1.out.trans hk.below
    have hx := x.isLt
    obtain ⟨ad, A0, c0, rfl, z0, z1, z2, z3, _, _⟩ := at_T45 (Kd.C_below HC.out hbW) (x.val : Int) (by omega) (by omega)
    rw [Int.toNat_natCast] at z0 z1 z2 z3
    have hsn := pickN_snoc l (pre.map Fin.val) x.val
    have hpi := pickN_in l (pre.map Fin.val) (fun n hn => by obtain ⟨y, _, rfl⟩ := List.mem_map.1 hn; exact y.isLt)
    obtain ⟨best, hbe⟩ : ∃ best, pickN l (pre.map Fin.val) = best := ⟨_, rfl⟩
    rw [hbe] at hc hsn hpi hb
    have HK := Aside0.mk hk
    have HB := Aside0.mk hb
    have HSN := Aside0.mk hsn
    clear hk hb hsn hbW
    obtain ⟨ex, hex⟩ : ∃ ex, (rd_T45 l (x.val : Int)).f2 = ex := ⟨_, rfl⟩
    have hps : pickS l best x.val = if best < 0 ∨ ex < (rdB l best).f2 then (x.val : Int) else best := by rw [← hex]; rfl
    rw [hex] at z2
    have HPS0 := Aside0.mk hps
    clear hps hex
    by_cases h0 : best < 0
    · have HPS : pickS l best x.val = (x.val : Int) := by rw [HPS0.out, if_pos (.inl h0)]
      have HPSA := Aside0.mk HPS
      clear HPS
      gi_wp2
      refine wpR_region_quiet (by simp) hmix (by kernel_rfl) ?_
      repeat (gi_big_quiet_step (fail))
      refine wpQuietIn_nil ?_
      rintro _ ⟨nq, rfl⟩
      gi_wp2
      have HPS := HPSA.out
      have hkd : KpB w.heap.size (w.heap.size + 1) w3.heap.size W (W.drewN nq) := KpB.of_below (pw_below_drewN (Below.refl _ _) nq) (by have := HK.out.below.size; omega) HK.out.below.size
      have hks := hkd.trans (KpB.set (H := w.heap.size) (B := w.heap.size + 1) (n := w3.heap.size) (by omega) (W.drewN nq) 0 (.int .i64 (x.val : Int)))
      exact ⟨(⟨hks.below.size, fun k o hk ho => (by
        have hne : k ≠ w.heap.size + 1 := fun e => by
          subst e
          rw [HB.out] at hk
          cases hk
          cases ho
        exact (Below.heap_setCell (W.drewN nq) ⟨w.heap.size + 1, 0, none⟩ (.int .i64 (x.val : Int)) k hne).trans hk)⟩ : KeepsOthers W _).from _, hks, by rw [List.map_append, List.map_cons, List.map_nil, HSN.out, HPS]; exact Boxed.set (W := W.drewN nq) (v := .int .i64 best) (.int .i64 (x.val : Int)) HB.out, HK.out.trans hks⟩
    · have h0 : 0 ≤ best := by omega
      have hbl : best < (l.length : Int) := by omega
      have hd0 : decide (best < 0) = false := decide_eq_false (by omega)
      obtain ⟨ad2, A1, c1, had, u0, u1, u2, u3, _, _⟩ := at_T45 (Kd.C_below HC.out (HBW1.out.trans HK.out.below)) best h0 hbl
      cases had
      obtain ⟨eb, heb⟩ : ∃ eb, (rd_T45 l best).f2 = eb := ⟨_, rfl⟩
      rw [heb] at u2
      have HPS1 : pickS l best x.val = if best < 0 ∨ ex < eb then (x.val : Int) else best := by rw [← heb]; exact HPS0.out
      have HPSA := Aside0.mk HPS1
      clear heb HPS1
      by_cases h2 : ex < eb
      · have hd2 : decide (ex < eb) = true := decide_eq_true h2
        gi_wp2
        refine wpR_region_quiet (by simp) hmix (by kernel_rfl) ?_
        repeat (gi_big_quiet_step (fail))
        refine wpQuietIn_nil ?_
        rintro _ ⟨nq, rfl⟩
        gi_wp2
        have HPS : pickS l best x.val = (x.val : Int) := by rw [HPSA.out, if_pos (.inr h2)]
        have hkd : KpB w.heap.size (w.heap.size + 1) w3.heap.size W (W.drewN nq) := KpB.of_below (pw_below_drewN (Below.refl _ _) nq) (by have := HK.out.below.size; omega) HK.out.below.size
        have hks := hkd.trans (KpB.set (H := w.heap.size) (B := w.heap.size + 1) (n := w3.heap.size) (by omega) (W.drewN nq) 0 (.int .i64 (x.val : Int)))
        exact ⟨(⟨hks.below.size, fun k o hk ho => (by
          have hne : k ≠ w.heap.size + 1 := fun e => by
            subst e
            rw [HB.out] at hk
            cases hk
            cases ho
          exact (Below.heap_setCell (W.drewN nq) ⟨w.heap.size + 1, 0, none⟩ (.int .i64 (x.val : Int)) k hne).trans hk)⟩ : KeepsOthers W _).from _, hks, by rw [List.map_append, List.map_cons, List.map_nil, HSN.out, HPS]; exact Boxed.set (W := W.drewN nq) (v := .int .i64 best) (.int .i64 (x.val : Int)) HB.out, HK.out.trans hks⟩
      · have hd2 : decide (ex < eb) = false := decide_eq_false h2
        gi_wp2
        refine wpR_region_quiet (by simp) hmix (by kernel_rfl) ?_
        repeat (gi_big_quiet_step (fail))
        refine wpQuietIn_nil ?_
        rintro _ ⟨nq, rfl⟩
        gi_wp2
        have HPS : pickS l best x.val = best := by rw [HPSA.out, if_neg (by omega)]
        have hkd : KpB w.heap.size (w.heap.size + 1) w3.heap.size W (W.drewN nq) := KpB.of_below (pw_below_drewN (Below.refl _ _) nq) (by have := HK.out.below.size; omega) HK.out.below.size
        exact ⟨(⟨Nat.le_refl _, fun k o hk _ => hk⟩ : KeepsOthers W (W.drewN nq)).from _, hkd, by rw [List.map_append, List.map_cons, List.map_nil, HSN.out, HPS]; exact HB.out, HK.out.trans hkd⟩
  case done =>
    rintro D ys W hD hys ⟨hb, hk⟩ hK
    rw [hys] at hb
    have hc := hb.cell
    have hf := hb.frozen
    gi_wp2
    refine ⟨by simp, .inl ⟨_, _, rfl, run_takeDeferred hK, ?_⟩⟩
    refine ⟨_, results_tmp rfl _ _ _, rfl, ?_⟩
    have hk3 : KpB w.heap.size (w.heap.size + 1) w3.heap.size W _ := KB _ D _ (.deferred none) hD hK rfl rfl
    exact HBW1.out.trans (hk.trans hk3).below
  case stop =>
    rintro D c' pre W _ _ h _
    exact h.elim
end Go.Proofs.Ytnbhkogjamdfhaa.X
