/- index.round, walked: the slots from a fingerprint's own on, all around. -/
import Derived.Test.YtnmafncghbkogaaIdxOver
import Derived.Test.YtnmafncghbkogaaBase
namespace Go.Proofs.Ytnmafncghbkogaa.X
open Go.RowKit Go.Shelf Go.Proofs.Ytnmafncghbkogaa.PAll Go.Proofs.YtnmafncghbkogaaW.PrintWords Go.Proofs.YtnmafncghbkogaaW.PrintLast Go.Proofs.YtnmafncghbkogaaW.PrintMore
attribute [local go_sem] Oper.semAt_some
set_option linter.unusedVariables false
set_option linter.unusedSimpArgs false
abbrev Sl := S41
abbrev kS : Kd Sl := k41
/-- The slot with a number. -/
def slAt (l : List Sl) (k : Nat) : Sl := l.getD k z41
/-- The i-th slot that is come to. -/
def ordr (n : Nat) (p : Int) (i : Nat) : Nat := (p.toNat % n + i) % n
def ordL (n : Nat) (p : Int) (i : Nat) : List Nat := (List.range i).map (ordr n p)
def roundN (l : List Sl) (p : Int) : List Nat := if p < 0 then [] else ordL l.length p l.length
theorem ordL_succ (n : Nat) (p : Int) (i : Nat) : ordL n p (i + 1) = ordL n p i ++ [ordr n p i] := by
  unfold ordL
  rw [List.range_succ, List.map_append]
  rfl
theorem ordL_length (n : Nat) (p : Int) (i : Nat) : (ordL n p i).length = i := by unfold ordL; simp
theorem ordr_lt {n : Nat} (h : 0 < n) (p : Int) (i : Nat) : ordr n p i < n := Nat.mod_lt _ h
theorem ordr_zero {n : Nat} (h : 0 < n) (p : Int) : ordr n p 0 = p.toNat % n := by unfold ordr; rw [Nat.add_zero, Nat.mod_mod]
theorem ordr_succ {n : Nat} (h : 0 < n) (p : Int) (i : Nat) : ordr n p (i + 1) = if ordr n p i + 1 = n then 0 else ordr n p i + 1 := by
  have hl := ordr_lt h p i
  have he : ordr n p (i + 1) = (ordr n p i + 1) % n := by
    unfold ordr
    rw [← Nat.add_assoc, Nat.add_mod (p.toNat % n + i) 1 n, Nat.add_mod ((p.toNat % n + i) % n) 1 n, Nat.mod_mod]
  rw [he]
  split
  · rename_i h2; rw [h2, Nat.mod_self]
  · exact Nat.mod_eq_of_lt (by omega)
theorem rem_nat {n : Nat} (p : Int) (h : 0 ≤ p) : Int.tmod p (n : Int) = ((p.toNat % n : Nat) : Int) := by
  obtain ⟨m, rfl⟩ := Int.eq_ofNat_of_zero_le h
  rw [Int.toNat_natCast, Int.ofNat_tmod]
/-- What a round is told. -/
def slV (x : Sl) : Value := .agg #[.int .i64 x.f0, .int .i64 x.f1, .int .i64 x.f2]
def encR (l : List Sl) (x : Fin l.length) : Array Value := #[.int .i64 x.val, slV (slAt l x.val)]
/-- What lies below H, and what pp names, stands as it stood. -/
structure Kq (H : Nat) (pp : Nat → Prop) (A B : World) : Prop where
  below : Below H A B
  same : ∀ k, pp k → k < A.heap.size → B.heap[k]? = A.heap[k]?
section
variable {H : Nat} {pp : Nat → Prop} {W W1 W2 : World}
theorem Kq.refl (W : World) : Kq H pp W W := ⟨Below.refl _ _, fun _ _ _ => rfl⟩
theorem Kq.trans (h : Kq H pp W W1) (h' : Kq H pp W1 W2) : Kq H pp W W2 := ⟨h.below.trans h'.below, fun k hk hl => (h'.same k hk (by have := h.below.size; omega)).trans (h.same k hk hl)⟩
theorem Kq.of_below (h : Below W.heap.size W W1) (hH : H ≤ W.heap.size) : Kq H pp W W1 := ⟨⟨h.1, h.2, h.3, h.4, fun k hk => h.5 k (by omega)⟩, fun k _ hl => h.5 k hl⟩
theorem Kq.of_grown {row : Option Nat} (hg : W.grownBy W1 row) (hr : ∀ r, row = some r → H ≤ r ∧ ¬ pp r) (hH : H ≤ W.heap.size) : Kq H pp W W1 :=
  ⟨⟨hg.1, hg.2, hg.3, hg.4, fun k hk => hg.5 k (by omega) (fun e => by have := (hr k e.symm).1; omega)⟩, fun k hk hl => hg.5 k hl (fun e => (hr k e.symm).2 hk)⟩
theorem Kq.put {l : Nat} (o o' : Obj) (hl : H ≤ l ∧ ¬ pp l) (h : W.heap[l]? = some o) (hH : H ≤ W.heap.size) : Kq H pp W (W.putObj l o') := Kq.of_grown (grownBy_putObj' W l o') (fun r e => by cases e; exact hl) hH
theorem Kq.set {b : Nat} (i : Nat) (v : Value) (hb : H ≤ b ∧ ¬ pp b) : Kq H pp W (W.setCell ⟨b, i, none⟩ v) :=
  ⟨⟨rfl, rfl, rfl, (KeepsOthers.setCell W ⟨b, i, none⟩ v).size, fun k hk => Below.heap_setCell W ⟨b, i, none⟩ v k (by show k ≠ b; omega)⟩, fun k hk _ => Below.heap_setCell W ⟨b, i, none⟩ v k (by show k ≠ b; exact fun e => hb.2 (e ▸ hk))⟩
end
set_option maxRecDepth 100000 in
/-- index.round(l, print): each boxed; the function value captures the boxes. -/
theorem round_in (A : Option Addr) (n c : Nat) (p : Int) (w : World) :
    Calls Try.prog 15 #[.slice A n c, .int .i64 p] w fun e w' => e = .returned (.func (.func 20) #[] #[.pointer (some ⟨w.heap.size + 1, 0, none⟩), .pointer (some ⟨w.heap.size, 0, none⟩)]) ∧ w' = (w.alloc (.cells #[.slice A n c] 24)).alloc (.cells #[.int .i64 p] 3) := by
  go_enter Try.func15, Try.ntmps15
  go_wp2
  go_ret
  exact ⟨rfl, rfl⟩
/-- index.used(l, print): likewise. -/
theorem used_in (A : Option Addr) (n c : Nat) (p : Int) (w : World) :
    Calls Try.prog 13 #[.slice A n c, .int .i64 p] w fun e w' => e = .returned (.func (.func 18) #[] #[.pointer (some ⟨w.heap.size, 0, none⟩), .pointer (some ⟨w.heap.size + 1, 0, none⟩)]) ∧ w' = (w.alloc (.cells #[.slice A n c] 24)).alloc (.cells #[.int .i64 p] 3) := by
  go_enter Try.func13, Try.ntmps13
  go_wp2
  go_ret
  exact ⟨rfl, rfl⟩
set_option maxRecDepth 100000 in
set_option maxHeartbeats 4000000 in
theorem round1_in (m lp B S E B1 B2 : Nat) (pp : Nat → Prop) (hB1 : pp B1) (hB2 : pp B2) (A : Option Addr) (c : Nat) (l : List Sl) (p : Int) (w0 : World) (hC : Kd.C kS w0 A l.length l) (hlm : l.length ≤ 100000) (J Jx : List (Fin l.length) → World → Prop)
    (hY : ∀ pre x W, B ≤ W.heap.size → J pre W → pre.length < l.length → YieldAt Fence.wide m Try.prog lp (encR l x) W fun e W' =>
      Keeps B S E W W' ∧ ((e = .returned (.bool true) ∧ J (pre ++ [x]) W' ∧ Kq w0.heap.size pp W W') ∨ (e = .returned (.bool false) ∧ Jx (pre ++ [x]) W')))
    (W : World) (hb0 : Below w0.heap.size w0 W) (hBW : B ≤ W.heap.size) (hc1 : W.heap[B1]? = some (.cells #[.int .i64 p] 3 (0, 0))) (hc2 : W.heap[B2]? = some (.cells #[.slice A l.length c] 24 (0, 0))) (h0 : J [] W) :
    CallsIn Fence.wide (m + 1) Try.prog 20 #[.func (.yield lp) #[] #[], .pointer (some ⟨B1, 0, none⟩), .pointer (some ⟨B2, 0, none⟩)] W fun e W' => (∃ v, e = .returned v) ∧
      ((∃ xs : List (Fin l.length), xs.map Fin.val = roundN l p ∧ J xs W') ∨ (∃ pre : List (Fin l.length), (0 ≤ p ∧ ∃ k, k ≤ l.length ∧ pre.map Fin.val = ordL l.length p k) ∧ Jx pre W')) := by
  have HC := Aside0.mk hC
  have HB0 := Aside0.mk hb0
  have HK1 := Aside0.mk hc1
  have HK2 := Aside0.mk hc2
  have HY := Aside0.mk hY
  have z1 : W.cell? ⟨B1, 0, none⟩ = some (.int .i64 p) := (blk_cell hc1 0).trans rfl
  have z2 : W.cell? ⟨B2, 0, none⟩ = some (.slice A l.length c) := (blk_cell hc2 0).trans rfl
  have hlt1 := blk_lt hc1
  have hlt2 := blk_lt hc2
  clear hC hb0 hc1 hc2 hY
  refine callsIn_of_wp Try.func20 rfl trivial ?_ rfl
  simp only [Try.ntmps20, List.size_toArray, List.length_cons, List.length_nil, Nat.reduceAdd, Nat.reduceSub, Array.replicate_succ, Array.replicate_zero, List.push_toArray, List.append_toArray, List.nil_append, List.cons_append]
  by_cases hp : p < 0
  · have hd : decide (p < 0) = true := decide_eq_true hp
    have hr0 : roundN l p = [] := by unfold roundN; rw [if_pos hp]
    gi_wp2
    refine bodyPost_ret (results_none rfl _ _ _) rfl ?_
    exact ⟨⟨_, rfl⟩, .inl ⟨[], hr0.symm, h0⟩⟩
  · have hd : decide (p < 0) = false := decide_eq_false hp
    by_cases hn : l.length = 0
    · have hnb : ((l.length : Int) == 0) = true := beq_iff_eq.mpr (by omega)
      have hr0 : roundN l p = [] := by unfold roundN ordL; rw [if_neg hp, hn]; rfl
      gi_wp2
      refine bodyPost_ret (results_none rfl _ _ _) rfl ?_
      exact ⟨⟨_, rfl⟩, .inl h0⟩
    · have hnb : ((l.length : Int) == 0) = false := beq_eq_false_iff_ne.mpr (by omega)
      have hrem := rem_nat (n := l.length) p (by omega)
      have hRN : roundN l p = ordL l.length p l.length := by unfold roundN; rw [if_neg hp]
      gi_wp2
      gi_loopw [4, 18] (fun kv iv wr => ∃ i : Nat, ∃ pre : List (Fin l.length), i ≤ l.length ∧ kv = .int .i64 (ordr l.length p i) ∧ iv = .int .i64 i ∧ pre.map Fin.val = ordL l.length p i ∧ J pre wr ∧ Kq w0.heap.size pp W wr)
        (fun _ iv _ => l.length - (intOf iv).toNat)
      case atStart => exact ⟨0, [], Nat.zero_le _, by rw [ordr_zero (by omega)]; simp, rfl, rfl, h0, Kq.refl _⟩
      case round =>
        obtain ⟨i, pre, hi, rfl, rfl, hpre, hJs, hkq⟩ := hrel
        have hpl : pre.length = i := by rw [← ordL_length l.length p i, ← hpre, List.length_map]
        have y1 : wr.cell? ⟨B1, 0, none⟩ = some (.int .i64 p) := (blk_cell ((hkq.same _ hB1 hlt1).trans HK1.out) 0).trans rfl
        have y2 : wr.cell? ⟨B2, 0, none⟩ = some (.slice A l.length c) := (blk_cell ((hkq.same _ hB2 hlt2).trans HK2.out) 0).trans rfl
        have HKQ := Aside0.mk hkq
        have HPRE := Aside0.mk hpre
        have HSU := Aside0.mk (ordr_succ (n := l.length) (by omega) p i)
        by_cases hlt : i < l.length
        · have hol := ordr_lt (n := l.length) (by omega) p i
          have hCr := Kd.C_below HC.out (HB0.out.trans hkq.below)
          obtain ⟨kk, hkk⟩ : ∃ kk, ordr l.length p i = kk := ⟨_, rfl⟩
          rw [hkk] at hol
          obtain ⟨ad, rfl, q0, q1, q2⟩ := at_T41 hCr (kk : Int) (by omega) (by omega)
          rw [Int.toNat_natCast] at q0 q1 q2
          obtain ⟨fn, tmps, assign, body, hy, hR⟩ := HY.out pre ⟨kk, hol⟩ wr (by have := hkq.below.size; omega) hJs (by omega)
          have hsv : slAt l kk = rd_T41 l (kk : Int) := by unfold slAt rd_T41; rw [Int.toNat_natCast]
          simp only [encR, slV, hsv] at hy
          rw [hkk] at HSU
          rw [hkk]
          have HKK := Aside0.mk hkk
          clear hkq hpre hCr hsv hkk
          by_cases he : kk + 1 = l.length
          · have hE : (((kk : Int) + 1) == (l.length : Int)) = true := beq_iff_eq.mpr (by omega)
            gi_wp2
            refine hR.mono ?_
            rintro e W3 ⟨hkp, (⟨rfl, hJ3, hk3⟩ | ⟨rfl, hJx3⟩)⟩
            · have x2 : W3.cell? ⟨B2, 0, none⟩ = some (.slice (some ad) l.length c) := (blk_cell (((HKQ.out.trans hk3).same _ hB2 hlt2).trans HK2.out) 0).trans rfl
              gi_wp2
              go_roundw
              case rel => exact ⟨i + 1, pre ++ [⟨kk, hol⟩], by omega, by rw [HSU.out, if_pos he]; rfl, by simp, by rw [List.map_append, HPRE.out, ordL_succ, HKK.out]; rfl, hJ3, HKQ.out.trans hk3⟩
              case measure => simp [intOf]; omega
            · gi_wp2
              refine bodyPost_ret (results_none rfl _ _ _) rfl ?_
              exact ⟨⟨_, rfl⟩, .inr ⟨_, ⟨by omega, i + 1, by omega, by rw [List.map_append, HPRE.out, ordL_succ, HKK.out]; rfl⟩, hJx3⟩⟩
          · have hE : (((kk : Int) + 1) == (l.length : Int)) = false := beq_eq_false_iff_ne.mpr (by omega)
            gi_wp2
            refine hR.mono ?_
            rintro e W3 ⟨hkp, (⟨rfl, hJ3, hk3⟩ | ⟨rfl, hJx3⟩)⟩
            · have x2 : W3.cell? ⟨B2, 0, none⟩ = some (.slice (some ad) l.length c) := (blk_cell (((HKQ.out.trans hk3).same _ hB2 hlt2).trans HK2.out) 0).trans rfl
              gi_wp2
              go_roundw
              case rel => exact ⟨i + 1, pre ++ [⟨kk, hol⟩], by omega, by rw [HSU.out, if_neg he]; simp, by simp, by rw [List.map_append, HPRE.out, ordL_succ, HKK.out]; rfl, hJ3, HKQ.out.trans hk3⟩
              case measure => simp [intOf]; omega
            · gi_wp2
              refine bodyPost_ret (results_none rfl _ _ _) rfl ?_
              exact ⟨⟨_, rfl⟩, .inr ⟨_, ⟨by omega, i + 1, by omega, by rw [List.map_append, HPRE.out, ordL_succ, HKK.out]; rfl⟩, hJx3⟩⟩
        · obtain rfl : i = l.length := by omega
          gi_wp2
          go_end0
          exact ⟨⟨_, rfl⟩, .inl ⟨pre, by rw [hRN]; exact HPRE.out, hJs⟩⟩
/-- What index.round hands back. -/
theorem round_over (m B1 B2 : Nat) (pp : Nat → Prop) (hB1 : pp B1) (hB2 : pp B2) (A : Option Addr) (c : Nat) (l : List Sl) (p : Int) (w0 w : World) (hC : Kd.C kS w0 A l.length l) (hlm : l.length ≤ 100000) (hb0 : Below w0.heap.size w0 w)
    (hc1 : w.heap[B1]? = some (.cells #[.int .i64 p] 3 (0, 0))) (hc2 : w.heap[B2]? = some (.cells #[.slice A l.length c] 24 (0, 0))) :
    SeqOver 0 Fence.wide (m + 1) Try.prog 20 #[.pointer (some ⟨B1, 0, none⟩), .pointer (some ⟨B2, 0, none⟩)] (encR l) (Kq w0.heap.size pp)
      (fun xs => xs.map Fin.val = roundN l p) (fun pre => 0 ≤ p ∧ ∃ k, k ≤ l.length ∧ pre.map Fin.val = ordL l.length p k) l.length w := fun lp J Jx W hW _ _ hY h0 =>
  round1_in m lp W.heap.size W.heap.size (W.heap.size + 0) B1 B2 pp hB1 hB2 A c l p w0 hC hlm J Jx hY W (hb0.trans ⟨hW.1, hW.2, hW.3, hW.4, fun k hk => hW.5 k (by have := hb0.size; omega)⟩) (Nat.le_refl _)
    ((hW.block _ (blk_lt hc1)).trans hc1) ((hW.block _ (blk_lt hc2)).trans hc2) h0
end Go.Proofs.Ytnmafncghbkogaa.X
