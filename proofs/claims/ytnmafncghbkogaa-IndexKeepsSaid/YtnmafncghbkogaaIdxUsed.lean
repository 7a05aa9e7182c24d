/- index.used, walked: the slots of a fingerprint, one by one: a range over index.round. -/
import Derived.Test.YtnmafncghbkogaaIdxRound
namespace Go.Proofs.Ytnmafncghbkogaa.X
open Go.RowKit Go.Shelf Go.Proofs.Ytnmafncghbkogaa.PAll Go.Proofs.YtnmafncghbkogaaW.PrintWords Go.Proofs.YtnmafncghbkogaaW.PrintLast Go.Proofs.YtnmafncghbkogaaW.PrintMore
attribute [local go_sem] Oper.semAt_some
set_option linter.unusedVariables false
set_option linter.unusedSimpArgs false
def matchS (p : Int) (x : Sl) : Bool := x.f0 == 1 && x.f1 == p
def nonE (l : List Sl) (k : Nat) : Bool := (slAt l k).f0 != 0
def usedN (l : List Sl) (p : Int) : List Nat := ((roundN l p).takeWhile (nonE l)).filter (fun k => matchS p (slAt l k))
def uf (l : List Sl) (p : Int) (pre : List (Fin l.length)) : List (Fin l.length) := pre.filter (fun x => matchS p (slAt l x.val))
theorem uf_hit {l : List Sl} {p : Int} {pre : List (Fin l.length)} {x : Fin l.length} (h : matchS p (slAt l x.val) = true) : uf l p (pre ++ [x]) = uf l p pre ++ [x] := by
  unfold uf
  rw [List.filter_append]
  simp [h]
theorem uf_miss {l : List Sl} {p : Int} {pre : List (Fin l.length)} {x : Fin l.length} (h : matchS p (slAt l x.val) = false) : uf l p (pre ++ [x]) = uf l p pre := by
  unfold uf
  rw [List.filter_append]
  simp [h]
theorem uf_map (l : List Sl) (p : Int) (pre : List (Fin l.length)) : (uf l p pre).map Fin.val = (pre.map Fin.val).filter (fun k => matchS p (slAt l k)) := by
  unfold uf
  rw [List.filter_map]
  rfl
theorem uf_length (l : List Sl) (p : Int) (pre : List (Fin l.length)) : (uf l p pre).length ≤ pre.length := List.length_filter_le _ _
theorem ordL_prefix {n : Nat} {p : Int} {k : Nat} (h : k ≤ n) : ordL n p k <+: ordL n p n := by
  unfold ordL
  obtain ⟨d, rfl⟩ : ∃ d, n = k + d := ⟨n - k, by omega⟩
  rw [List.range_add, List.map_append]
  exact List.prefix_append _ _
theorem takeWhile_app {α : Type} {q : α → Bool} : ∀ {a b : List α}, (∀ x ∈ a, q x = true) → (a ++ b).takeWhile q = a ++ b.takeWhile q
  | [], _, _ => rfl
  | x :: a, b, h => by
    rw [List.cons_append, List.takeWhile_cons_of_pos (h x (by simp)), takeWhile_app (fun y hy => h y (by simp [hy])), List.cons_append]
/-- All around, and none was empty. -/
theorem used_all {l : List Sl} {p : Int} {xs : List (Fin l.length)} (h : xs.map Fin.val = roundN l p) (hn : ∀ x ∈ xs, nonE l x.val = true) : (uf l p xs).map Fin.val = usedN l p := by
  rw [uf_map, h]
  unfold usedN
  have : (roundN l p).takeWhile (nonE l) = roundN l p := by
    have h2 := takeWhile_app (q := nonE l) (a := roundN l p) (b := []) (fun x hx => by
      rw [← h] at hx
      obtain ⟨y, hy, rfl⟩ := List.mem_map.1 hx
      exact hn y hy)
    rw [List.append_nil, List.takeWhile_nil, List.append_nil] at h2
    exact h2
  rw [this]
/-- The first that is empty is come to. -/
theorem used_stop {l : List Sl} {p : Int} {pre : List (Fin l.length)} {x : Fin l.length} {k : Nat} (hp : 0 ≤ p) (hk : k ≤ l.length) (h : (pre ++ [x]).map Fin.val = ordL l.length p k) (hn : ∀ y ∈ pre, nonE l y.val = true) (hx : nonE l x.val = false) :
    (uf l p pre).map Fin.val = usedN l p := by
  obtain ⟨t, ht⟩ := ordL_prefix (p := p) hk
  rw [uf_map]
  unfold usedN roundN
  rw [if_neg (by omega), ← ht, ← h, List.map_append, List.append_assoc, takeWhile_app (fun y hy => by
    obtain ⟨z, hz, rfl⟩ := List.mem_map.1 hy
    exact hn z hz)]
  simp [hx]
/-- One of the fingerprint's is come to. -/
theorem used_pre {l : List Sl} {p : Int} {pre : List (Fin l.length)} {x : Fin l.length} {k : Nat} (hp : 0 ≤ p) (hk : k ≤ l.length) (h : (pre ++ [x]).map Fin.val = ordL l.length p k) (hn : ∀ y ∈ pre, nonE l y.val = true) (hx : nonE l x.val = true) (hm : matchS p (slAt l x.val) = true) :
    (uf l p pre ++ [x]).map Fin.val <+: usedN l p := by
  obtain ⟨t, ht⟩ := ordL_prefix (p := p) hk
  rw [← uf_hit hm, uf_map]
  unfold usedN roundN
  rw [if_neg (by omega), ← ht, ← h, takeWhile_app (fun y hy => by
    obtain ⟨z, hz, rfl⟩ := List.mem_map.1 hy
    rcases List.mem_append.1 hz with hz | hz
    · exact hn z hz
    · rw [List.mem_singleton] at hz; rw [hz]; exact hx), List.filter_append]
  exact List.prefix_append _ _
theorem roundIn_wide {n n' lp l f : Nat} {P : Program} {tmps : Array Value} {assign body : Code} {w : World} {R : Ending → World → Prop} (h : RoundIn Fence.wide n P l f tmps assign body w R) : RoundIn (Fence.wide.inRound lp) n' P l f tmps assign body w R :=
  ⟨trivial, fun c cs _ => h.2 c cs (room_wide _)⟩
/-- The variable of a round. -/
def sBox (W : World) (sb : Nat) (x : Sl) : Prop := W.heap[sb]? = some (.cells #[.int .i64 x.f0, .int .i64 x.f1, .int .i64 x.f2] 41 (0, 0))
set_option maxRecDepth 100000 in
set_option maxHeartbeats 4000000 in
theorem used1_in (m lp B1 B2 : Nat) (pp : Nat → Prop) (hB1 : pp B1) (hB2 : pp B2) (A : Option Addr) (c : Nat) (l : List Sl) (p : Int) (w0 : World) (hC : Kd.C kS w0 A l.length l) (hlm : l.length ≤ 100000) (J Jx : List (Fin l.length) → World → Prop)
    (W : World) (hpp : ∀ k, pp k → k < W.heap.size) (hJ : OwnFrom W.heap.size J) (hJx : OwnFrom W.heap.size Jx)
    (hY : ∀ pre x W1, W.heap.size + 3 ≤ W1.heap.size → J pre W1 → pre.length < l.length → YieldAt Fence.wide (m + 3) Try.prog lp (encR l x) W1 fun e W' =>
      Keeps W.heap.size W.heap.size (W.heap.size + 3) W1 W' ∧ ((e = .returned (.bool true) ∧ J (pre ++ [x]) W' ∧ Kq w0.heap.size pp W1 W') ∨ (e = .returned (.bool false) ∧ Jx (pre ++ [x]) W')))
    (hb0 : Below w0.heap.size w0 W) (hc1 : W.heap[B1]? = some (.cells #[.slice A l.length c] 24 (0, 0))) (hc2 : W.heap[B2]? = some (.cells #[.int .i64 p] 3 (0, 0))) (h0 : J [] W) :
    CallsIn Fence.wide (m + 4) Try.prog 18 #[.func (.yield lp) #[] #[], .pointer (some ⟨B1, 0, none⟩), .pointer (some ⟨B2, 0, none⟩)] W fun e W' => (∃ v, e = .returned v) ∧
      ((∃ xs : List (Fin l.length), xs.map Fin.val = usedN l p ∧ J xs W') ∨ (∃ pre : List (Fin l.length), pre.map Fin.val <+: usedN l p ∧ Jx pre W')) := by
  have HY := Aside0.mk hY
  have HJ := Aside0.mk hJ
  have HJX := Aside0.mk hJx
  have z1 : W.cell? ⟨B1, 0, none⟩ = some (.slice A l.length c) := (blk_cell hc1 0).trans rfl
  have z2 : W.cell? ⟨B2, 0, none⟩ = some (.int .i64 p) := (blk_cell hc2 0).trans rfl
  have hlt1 := blk_lt hc1
  have hlt2 := blk_lt hc2
  have HH : w0.heap.size ≤ W.heap.size := hb0.size
  obtain ⟨w1, hw1⟩ : ∃ w1 : World, W.alloc (.cells #[.func (.yield lp) #[] #[]] 47) = w1 := ⟨_, rfl⟩
  obtain ⟨w2, hw2⟩ : ∃ w2 : World, w1.alloc (.cells #[.slice A l.length c] 24) = w2 := ⟨_, rfl⟩
  obtain ⟨w3, hw3⟩ : ∃ w3 : World, w2.alloc (.cells #[.int .i64 p] 3) = w3 := ⟨_, rfl⟩
  have s1 : w1.heap.size = W.heap.size + 1 := by rw [← hw1]; simp
  have s2 : w2.heap.size = W.heap.size + 2 := by rw [← hw2]; simp [s1]
  have s3 : w3.heap.size = W.heap.size + 3 := by rw [← hw3]; simp [s2]
  have b1 : Below W.heap.size W w1 := by rw [← hw1]; exact (Below.refl _ _).alloc (Nat.le_refl _) _
  have b2 : Below w1.heap.size w1 w2 := by rw [← hw2]; exact (Below.refl _ _).alloc (Nat.le_refl _) _
  have b3 : Below w2.heap.size w2 w3 := by rw [← hw3]; exact (Below.refl _ _).alloc (Nat.le_refl _) _
  have bW3 : Below W.heap.size W w3 := (b1.trans (b2.mono (by omega))).trans (b3.mono (by omega))
  have k0 : w3.heap[W.heap.size]? = some (.cells #[.func (.yield lp) #[] #[]] 47 (0, 0)) := by
    rw [b3.block _ (by omega), b2.block _ (by omega), ← hw1]; exact World.alloc_heap_new W _
  have k1 : w3.heap[W.heap.size + 1]? = some (.cells #[.slice A l.length c] 24 (0, 0)) := by
    rw [b3.block _ (by omega), ← hw2, ← s1]; exact World.alloc_heap_new w1 _
  have k2 : w3.heap[W.heap.size + 2]? = some (.cells #[.int .i64 p] 3 (0, 0)) := by
    rw [← hw3, ← s2]; exact World.alloc_heap_new w2 _
  have HB3 := Aside0.mk (hb0.trans ⟨bW3.1, bW3.2, bW3.3, bW3.4, fun k hk => bW3.5 k (by omega)⟩)
  have hj3 : J [] w3 := by rw [← hw3, ← hw2, ← hw1]; exact hJ.alloc _ (hJ.alloc _ (hJ.alloc _ h0))
  obtain ⟨pq, hpq⟩ : ∃ pq : Nat → Prop, pq = fun k => pp k ∨ (W.heap.size ≤ k ∧ k < W.heap.size + 3) := ⟨_, rfl⟩
  have HRO := Aside0.mk (round_over (m + 2) (W.heap.size + 2) (W.heap.size + 1) pq (by rw [hpq]; exact .inr (by omega)) (by rw [hpq]; exact .inr (by omega)) A c l p w0 w3 hC hlm HB3.out k2 k1)
  have HRI := Aside0.mk (round_in A l.length c p w1)
  have HW1 := Aside0.mk hw1
  rw [hw2, s1, show w2.alloc (.cells #[.int .i64 p] 3) = w3 from hw3] at HRI
  have HK0 := Aside0.mk k0
  have HK2 := Aside0.mk (hb0.size)
  have HBW3 := Aside0.mk bW3
  have HPP := Aside0.mk hpp
  have y1 : w1.cell? ⟨B1, 0, none⟩ = some (.slice A l.length c) := (b1.cell (p := ⟨B1, 0, none⟩) hlt1).trans z1
  have y2 : w1.cell? ⟨B2, 0, none⟩ = some (.int .i64 p) := (b1.cell (p := ⟨B2, 0, none⟩) hlt2).trans z2
  have HC2 := Aside0.mk ((bW3.block _ hlt2).trans hc2)
  clear k0 k1 k2 b1 b2 b3 bW3 hC hb0 hY hJ hJx hpp hc1 hc2 hw2 hw3 h0
  refine callsIn_of_wp_marks Try.func18 rfl trivial ?_ rfl
  simp only [Try.ntmps18, List.size_toArray, List.length_cons, List.length_nil, Nat.reduceAdd, Nat.reduceSub, Array.replicate_succ, Array.replicate_zero, List.push_toArray, List.append_toArray, List.nil_append, List.cons_append]
  gi_wp2_with (refine ⟨trivial, (callsIn_wide.2 HRI.out).mono ?_⟩; rintro e w4 ⟨rfl, rfl⟩)
  have hpqs : ∀ k, W.heap.size + 3 ≤ k → ¬ pq k := fun k hk h => by
    rw [hpq] at h
    rcases h with h | h
    · have := HPP.out k h; omega
    · omega
  have hPP : ∀ {X Y : World}, Kq w0.heap.size pq X Y → Kq w0.heap.size pp X Y := fun h => ⟨h.below, fun k hk hl => h.same k (by rw [hpq]; exact .inl hk) hl⟩
  refine wpIn_rangeOver (encs := encR l) (Kp := Kq w0.heap.size pq) (w0 := w4) rfl (by omega) (gf := 20) (lb := #[.pointer (some ⟨W.heap.size + 2, 0, none⟩), .pointer (some ⟨W.heap.size + 1, 0, none⟩)]) rfl trivial (fun _ _ => rfl)
    HRO.out Kq.trans (fun X k o o' hk ho => Kq.put o o' ⟨by omega, hpqs k (by omega)⟩ ho (by have := blk_lt ho; omega)) (Below.refl _ _) (fun _ => rfl)
    (fun pre X => J (uf l p pre) X ∧ (∀ y ∈ pre, nonE l y.val = true) ∧ Kq w0.heap.size pq w4 X)
    (fun c' xs X => c' = .ret ∧ ∃ pre x, xs = pre ++ [x] ∧ (∀ y ∈ pre, nonE l y.val = true) ∧ ((nonE l x.val = false ∧ J (uf l p pre) X) ∨ (nonE l x.val = true ∧ matchS p (slAt l x.val) = true ∧ Jx (uf l p pre ++ [x]) X)))
    (fun pre X Y row ⟨h1, h2, h3⟩ hg hr => ⟨HJ.out _ X Y row h1 hg (fun r e => ⟨by have := (hr r e).1; omega, (hr r e).2⟩), h2, h3.trans (Kq.of_grown hg (fun r e => ⟨by have := (hr r e).1; omega, hpqs r (by have := (hr r e).1; omega)⟩) (by have := h3.below.size; omega))⟩)
    (fun c' xs X Y row ⟨hc, pre, x, hx, hn, h⟩ hg hr => ⟨hc, pre, x, hx, hn, h.imp (fun ⟨h1, h2⟩ => ⟨h1, HJ.out _ X Y row h2 hg (fun r e => ⟨by have := (hr r e).1; omega, (hr r e).2⟩)⟩) (fun ⟨h1, h2, h3⟩ => ⟨h1, h2, HJX.out _ X Y row h3 hg (fun r e => ⟨by have := (hr r e).1; omega, (hr r e).2⟩)⟩)⟩)
    ⟨hj3, fun _ h => absurd h (by simp), Kq.refl _⟩
    (fun pre x a' X => J (uf l p pre) X ∧ (∀ y ∈ pre, nonE l y.val = true) ∧ Kq w0.heap.size pq w4 X ∧ ∃ sb, sBox X sb (slAt l x.val) ∧ a' = { tmps := #[.func (.yield lp) #[] #[], .pointer (some ⟨B1, 0, none⟩), .pointer (some ⟨B2, 0, none⟩), .pointer (some ⟨W.heap.size, 0, none⟩), .int .i64 x.val, .pointer (some ⟨sb, 0, none⟩), .slice A l.length c, .int .i64 p, .func (.func 20) #[] #[.pointer (some ⟨W.heap.size + 1 + 1, 0, none⟩), .pointer (some ⟨W.heap.size + 1, 0, none⟩)], .int .i64 x.val, slV (slAt l x.val), undef, undef, undef, undef, undef, undef, undef, undef, undef, undef, undef, undef, undef, undef, undef, undef, undef, undef, undef, undef, undef], defers := [] })
    (fun pre x a' _ X Y row ⟨h1, h2, h3, sb, h4, h5⟩ hg hr => ⟨HJ.out _ X Y row h1 hg (fun r e => ⟨by have := (hr r e).1; omega, (hr r e).2⟩), h2, h3.trans (Kq.of_grown hg (fun r e => ⟨by have := (hr r e).1; omega, hpqs r (by have := (hr r e).1; omega)⟩) (by have := h3.below.size; omega)), sb,
      (hg.block sb (blk_lt h4) (fun e => by obtain ⟨o, ho, hc⟩ := (hr sb e.symm).2; rw [show X.heap[sb]? = _ from h4] at ho; cases ho; cases hc)).trans h4, h5⟩)
    ?assign ?body ?done ?stop
  case assign =>
    intro l₁ pre x X K hsz ⟨h1, h2, h3⟩ hlen hK
    simp only [encR, slV]
    gi_wp2
    have bX : Below X.heap.size X (X.alloc (.cells #[.int .i64 (slAt l x.val).f0, .int .i64 (slAt l x.val).f1, .int .i64 (slAt l x.val).f2] 41)) := (Below.refl _ _).alloc (Nat.le_refl _) _
    have kX := Kq.of_below (H := w0.heap.size) (pp := pq) bX (by omega)
    exact hK _ _ (Keeps.of_below bX) kX ⟨(ownFrom_mono HJ.out (by omega)).alloc (B := w4.heap.size) _ h1, h2, h3.trans kX, X.heap.size, World.alloc_heap_new X _, rfl⟩
  case body =>
    rintro l₁ pre x a' X hsz ⟨h1, h2, h3, sb, h4, rfl⟩ hlen
    obtain ⟨fn, tmps, assign, body, hy, hR⟩ := HY.out (uf l p pre) x X (by omega) h1 (by have := uf_length l p pre; omega)
    have q0 : X.cell? ⟨sb, 0, none⟩ = some (.int .i64 (slAt l x.val).f0) := (blk_cell h4 0).trans rfl
    have q1 : X.cell? ⟨sb, 1, none⟩ = some (.int .i64 (slAt l x.val).f1) := (blk_cell h4 1).trans rfl
    have q2 : X.cell? ⟨sb, 2, none⟩ = some (.int .i64 (slAt l x.val).f2) := (blk_cell h4 2).trans rfl
    have q3 : X.cell? ⟨W.heap.size, 0, none⟩ = some (.func (.yield lp) #[] #[]) := (blk_cell ((h3.same _ (by rw [hpq]; exact .inr (by omega)) (by omega)).trans HK0.out) 0).trans rfl
    have q4 : X.cell? ⟨B2, 0, none⟩ = some (.int .i64 p) := (blk_cell ((h3.same _ (by rw [hpq]; exact .inl hB2) (by omega)).trans HC2.out) 0).trans rfl
    have HS := Aside0.mk h4
    have H1 := Aside0.mk h1
    have H2 := Aside0.mk h2
    have H3 := Aside0.mk h3
    clear h1 h2 h3 h4
    have hne : nonE l x.val = ((slAt l x.val).f0 != 0) := rfl
    have hma : matchS p (slAt l x.val) = ((slAt l x.val).f0 == 1 && (slAt l x.val).f1 == p) := rfl
    have HF := Aside0.mk (uf_hit (l := l) (p := p) (pre := pre) (x := x))
    have HM := Aside0.mk (uf_miss (l := l) (p := p) (pre := pre) (x := x))
    simp only [encR, slV] at hy ⊢
    obtain ⟨s0, e0⟩ : ∃ s0, (slAt l x.val).f0 = s0 := ⟨_, rfl⟩
    obtain ⟨s1', e1⟩ : ∃ s1', (slAt l x.val).f1 = s1' := ⟨_, rfl⟩
    obtain ⟨s2', e2⟩ : ∃ s2', (slAt l x.val).f2 = s2' := ⟨_, rfl⟩
    simp only [e0, e1, e2] at q0 q1 q2 hy hne hma ⊢
    by_cases c0 : s0 = 0
    · have d0 : (s0 == 0) = true := beq_iff_eq.mpr c0
      have hne' : nonE l x.val = false := by rw [hne, c0]; rfl
      have HNE := Aside0.mk hne'
      clear hR hy hne hma hne' c0
      gi_wp2
      exact ⟨Keeps.refl _ _ _ _, rfl, pre, x, rfl, H2.out, .inl ⟨HNE.out, H1.out⟩⟩
    · have d0 : (s0 == 0) = false := beq_eq_false_iff_ne.mpr c0
      have HNE := Aside0.mk (show nonE l x.val = true by rw [hne]; exact bne_iff_ne.mpr c0)
      clear hne c0
      have hend : ∀ y ∈ pre ++ [x], nonE l y.val = true := fun y hy => by
        rcases List.mem_append.1 hy with h | h
        · exact H2.out y h
        · rw [List.mem_singleton] at h; rw [h]; exact HNE.out
      have HEND := Aside0.mk hend
      clear hend
      by_cases c1 : s0 = 1
      · have d1 : (s0 == 1) = true := beq_iff_eq.mpr c1
        by_cases c2 : s1' = p
        · have d2 : (s1' == p) = true := beq_iff_eq.mpr c2
          have HMA := Aside0.mk (show matchS p (slAt l x.val) = true by rw [hma, d1, d2]; rfl)
          clear hma c1 c2
          gi_wp2
          refine (roundIn_wide hR).mono ?_
          rintro e W3 ⟨hkp, (⟨rfl, hJ3, hk3⟩ | ⟨rfl, hJx3⟩)⟩
          · gi_wp2
            have hkq : Kq w0.heap.size pq X W3 := ⟨hk3.below, fun k hk hl => by
              rw [hpq] at hk
              rcases hk with hk | hk
              · exact hk3.same k hk hl
              · exact hkp.cells k hk.1 hk.2 hl⟩
            exact ⟨hkp.mono (by omega) (by omega) (by omega), hkq, by rw [HF.out HMA.out]; exact hJ3, HEND.out, H3.out.trans hkq⟩
          · gi_wp2
            exact ⟨hkp.mono (by omega) (by omega) (by omega), rfl, pre, x, rfl, H2.out, .inr ⟨HNE.out, HMA.out, hJx3⟩⟩
        · have d2 : (s1' == p) = false := beq_eq_false_iff_ne.mpr c2
          have HMA := Aside0.mk (show matchS p (slAt l x.val) = false by rw [hma, d2]; simp)
          clear hma c1 c2 hR hy
          gi_wp2
          refine ⟨fun _ h => (by cases h), ?_⟩
          gi_wp2
          exact ⟨Keeps.refl _ _ _ _, Kq.refl _, by rw [HM.out HMA.out]; exact H1.out, HEND.out, H3.out⟩
      · have d1 : (s0 == 1) = false := beq_eq_false_iff_ne.mpr c1
        have HMA := Aside0.mk (show matchS p (slAt l x.val) = false by rw [hma, d1]; rfl)
        clear hma c1 hR hy
        gi_wp2
        refine ⟨fun _ h => (by cases h), ?_⟩
        gi_wp2
        exact ⟨Keeps.refl _ _ _ _, Kq.refl _, by rw [HM.out HMA.out]; exact H1.out, HEND.out, H3.out⟩
  case done =>
    rintro D xs X hD hxs ⟨h1, h2, h3⟩ hK
    gi_wp2
    refine ⟨by simp, .inl ⟨_, _, rfl, run_takeDeferred hK, ?_⟩⟩
    exact ⟨_, results_none rfl _ _ _, ⟨_, rfl⟩, .inl ⟨uf l p xs, used_all hxs h2, HJ.out.putObj _ h1 (by omega) hK rfl⟩⟩
  case stop =>
    rintro D c' xs X hD ⟨hp0, k, hk, hxs⟩ ⟨rfl, pre, x, rfl, hn, h⟩ hK
    gi_wp2
    refine ⟨by simp, .inl ⟨_, _, rfl, run_takeDeferred hK, ?_⟩⟩
    refine ⟨_, results_none rfl _ _ _, ⟨_, rfl⟩, ?_⟩
    rcases h with ⟨he, hj⟩ | ⟨he, hm, hj⟩
    · exact .inl ⟨uf l p pre, used_stop hp0 hk hxs hn he, HJ.out.putObj _ hj (by omega) hK rfl⟩
    · exact .inr ⟨uf l p pre ++ [x], used_pre hp0 hk hxs hn he hm, HJX.out.putObj _ hj (by omega) hK rfl⟩
/-- What index.used hands back. -/
theorem used_over (m B1 B2 : Nat) (pp : Nat → Prop) (hB1 : pp B1) (hB2 : pp B2) (A : Option Addr) (c : Nat) (l : List Sl) (p : Int) (w0 w : World) (hC : Kd.C kS w0 A l.length l) (hlm : l.length ≤ 100000) (hb0 : Below w0.heap.size w0 w) (hpp : ∀ k, pp k → k < w.heap.size)
    (hc1 : w.heap[B1]? = some (.cells #[.slice A l.length c] 24 (0, 0))) (hc2 : w.heap[B2]? = some (.cells #[.int .i64 p] 3 (0, 0))) :
    SeqOver 3 Fence.wide (m + 4) Try.prog 18 #[.pointer (some ⟨B1, 0, none⟩), .pointer (some ⟨B2, 0, none⟩)] (encR l) (Kq w0.heap.size pp)
      (fun xs => xs.map Fin.val = usedN l p) (fun pre => pre.map Fin.val <+: usedN l p) l.length w := fun lp J Jx W hW hJ hJx hY h0 =>
  used1_in m lp B1 B2 pp hB1 hB2 A c l p w0 hC hlm J Jx W (fun k hk => Nat.lt_of_lt_of_le (hpp k hk) hW.size) hJ hJx hY (hb0.trans ⟨hW.1, hW.2, hW.3, hW.4, fun k hk => hW.5 k (by have := hb0.size; omega)⟩)
    ((hW.block _ (blk_lt hc1)).trans hc1) ((hW.block _ (blk_lt hc2)).trans hc2) h0
end Go.Proofs.Ytnmafncghbkogaa.X
