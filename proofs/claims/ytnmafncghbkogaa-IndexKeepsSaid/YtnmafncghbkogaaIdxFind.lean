/- index.Find, walked. -/
import Derived.Test.YtnmafncghbkogaaIdxDrop
import Derived.RangeFuncRecord
namespace Go.Proofs.Ytnmafncghbkogaa.X
open Go.RowKit Go.Shelf Go.Proofs.Ytnmafncghbkogaa.PAll Go.Proofs.YtnmafncghbkogaaW.PrintWords Go.Proofs.YtnmafncghbkogaaW.PrintLast Go.Proofs.YtnmafncghbkogaaW.PrintMore
attribute [local go_sem] Oper.semAt_some
set_option linter.unusedVariables false
set_option linter.unusedSimpArgs false
def findV (l : List Sl) (p : Int) : List Int := (usedN l p).map (fun k => (slAt l k).f2)
theorem row_block {W : World} {base : Nat} {e : TypeId} {size k : Nat} {v : Value} {xs : List Value} (h : W.ownsRow base e size v k xs) (r : Nat) (hr : v.ownBlock = some r) : base ≤ r ∧ ∃ o, W.heap[r]? = some o ∧ o.isCells = true := by
  rcases h.2 with ⟨rfl, _⟩ | ⟨g, cap, cur, rfl, hb, hg, _⟩
  · simp [Value.ownBlock] at hr
  · obtain rfl : g = r := by simpa [Value.ownBlock] using hr
    exact ⟨hb, _, hg, rfl⟩
theorem xinfo_int : (Try.prog.info? 3).map (fun i => (i.zero, i.size, i.bytes)) = some (some (.int .i64 0), 1, 8) := by kernel_rfl
set_option maxRecDepth 100000 in
set_option maxHeartbeats 4000000 in
theorem find_any (A : Option Addr) (c : Nat) (l : List Sl) (p : Int) (w : World) (hC : Kd.C kS w A l.length l) (hlm : l.length ≤ 100000) :
    Calls Try.prog 9 #[.slice A l.length c, .int .i64 p] w fun e w' => ∃ v0_ : Value, e = .returned (v0_) ∧ Kd.R (Kd.int .i64) 3 w' w.heap.size (fun _ => True) v0_ (findV l p) ∧ Below w.heap.size w w' := by
  obtain ⟨i0, hi, hz0, hz1, hz2⟩ := info_parts xinfo_int
  obtain ⟨v0, h0⟩ : ∃ z : World, w.alloc (.cells #[.slice none 0 0] 33) = z := ⟨_, rfl⟩
  obtain ⟨u0, h1⟩ : ∃ z : World, v0.alloc (.cells #[.slice A l.length c] 24) = z := ⟨_, rfl⟩
  obtain ⟨u, h2⟩ : ∃ z : World, u0.alloc (.cells #[.int .i64 p] 3) = z := ⟨_, rfl⟩
  have s0 : v0.heap.size = w.heap.size + 1 := by rw [← h0]; simp
  have s1 : u0.heap.size = w.heap.size + 2 := by rw [← h1]; simp [s0]
  have s2 : u.heap.size = w.heap.size + 3 := by rw [← h2]; simp [s1]
  have b0 : Below w.heap.size w v0 := by rw [← h0]; exact (Below.refl _ _).alloc (Nat.le_refl _) _
  have b1 : Below v0.heap.size v0 u0 := by rw [← h1]; exact (Below.refl _ _).alloc (Nat.le_refl _) _
  have b2 : Below u0.heap.size u0 u := by rw [← h2]; exact (Below.refl _ _).alloc (Nat.le_refl _) _
  have f2 : Below u0.heap.size u0 u := b2
  have f1 : Below v0.heap.size v0 u := b1.trans (f2.mono (by omega))
  have f0 : Below w.heap.size w u := b0.trans (f1.mono (by omega))
  have k0 : u.heap[w.heap.size]? = some (.cells #[.slice none 0 0] 33 (0, 0)) := by have e_ := World.alloc_heap_new w (.cells #[.slice none 0 0] 33); rw [h0] at e_; exact (f1.block _ (by omega)).trans e_
  have k1 : u.heap[w.heap.size + 1]? = some (.cells #[.slice A l.length c] 24 (0, 0)) := by have e_ := World.alloc_heap_new v0 (.cells #[.slice A l.length c] 24); rw [s0, h1] at e_; exact (f2.block _ (by omega)).trans e_
  have k2 : u.heap[w.heap.size + 2]? = some (.cells #[.int .i64 p] 3 (0, 0)) := by have e_ := World.alloc_heap_new u0 (.cells #[.int .i64 p] 3); rw [s1, h2] at e_; exact e_
  have hv : w.alloc (.cells #[.slice none 0 0] 33) = v0 := by rw [h0]
  have HU := Aside0.mk f0
  have HC := Aside0.mk hC
  have HRO := Aside0.mk (used_over 3 (w.heap.size + 1) (w.heap.size + 2) (fun k => k < w.heap.size + 3 ∧ k ≠ w.heap.size) (by omega) (by omega) A c l p w u hC hlm f0 (fun k hk => by omega) k1 k2)
  have HRI := Aside0.mk (used_in A l.length c p v0)
  have HV := Aside0.mk hv
  rw [h1, h2, s0] at HRI
  have K0 := Aside0.mk (show Boxed u w.heap.size 33 (.slice none 0 0) from k0)
  clear k0 k1 k2 f0 f1 f2 b0 b1 b2 h0 h1 h2 hC
  refine (callsIn_wide (n := 8)).1 ?_
  refine callsIn_of_wp_marks Try.func9 rfl trivial ?_ rfl
  simp only [Try.ntmps9, List.size_toArray, List.length_cons, List.length_nil, Nat.reduceAdd, Nat.reduceSub, Array.replicate_succ, Array.replicate_zero, List.push_toArray, List.append_toArray, List.nil_append, List.cons_append]
  gi_wp2_with (refine ⟨trivial, (callsIn_wide.2 HRI.out).mono ?_⟩; rintro e w4 ⟨rfl, rfl⟩)
  refine wpIn_rangeOver (encs := encR l) (Kp := Kq w.heap.size (fun k => k < w.heap.size + 3 ∧ k ≠ w.heap.size)) (w0 := w4) rfl (by omega) (gf := 18) (lb := #[.pointer (some ⟨w.heap.size + 1, 0, none⟩), .pointer (some ⟨w.heap.size + 2, 0, none⟩)]) rfl trivial (fun _ _ => rfl)
    HRO.out Kq.trans (fun X k o o' hk ho => Kq.put o o' ⟨by omega, by omega⟩ ho (by have := blk_lt ho; omega)) (Below.refl _ _) (fun _ => rfl)
    (fun pre X => (∃ v, Boxed X w.heap.size 33 v ∧ X.ownsRow (w4.heap.size + 5) 3 1 v pre.length (pre.map (fun y => Value.int .i64 (slAt l y.val).f2)) ∧ True) ∧ Kq w.heap.size (fun k => k < w.heap.size + 3 ∧ k ≠ w.heap.size) w4 X)
    (fun _ _ _ => False)
    (fun pre X Y row ⟨h2, h3⟩ hg hr => ⟨Own.from (holdsRow_own (w4.heap.size + 5) w.heap.size 33 3 1 (fun pre : List (Fin l.length) => pre.length) (fun pre => pre.map (fun y => Value.int .i64 (slAt l y.val).f2)) (fun _ _ => True)) _ pre X Y row h2 hg hr, h3.trans (Kq.of_grown hg (fun r e => ⟨by have := (hr r e).1; omega, by have := (hr r e).1; omega⟩) (by have := h3.below.size; omega))⟩)
    (fun _ _ _ _ _ h _ _ => h)
    ⟨⟨_, K0.out, World.ownsRow_nil _ _ _ _, trivial⟩, Kq.refl _⟩
    (fun pre x a' X => ((∃ v, Boxed X w.heap.size 33 v ∧ X.ownsRow (w4.heap.size + 5) 3 1 v pre.length (pre.map (fun y => Value.int .i64 (slAt l y.val).f2)) ∧ True) ∧ Kq w.heap.size (fun k => k < w.heap.size + 3 ∧ k ≠ w.heap.size) w4 X) ∧ ∃ sb, sBox X sb (slAt l x.val) ∧ a' = { tmps := #[.slice A l.length c, .int .i64 p, undef, undef, .pointer (some ⟨w.heap.size, 0, none⟩), undef, .pointer (some ⟨sb, 0, none⟩), .slice A l.length c, .int .i64 p, .func (.func 18) #[] #[.pointer (some ⟨w.heap.size + 1, 0, none⟩), .pointer (some ⟨w.heap.size + 1 + 1, 0, none⟩)], .int .i64 x.val, slV (slAt l x.val), undef, undef, undef, undef, undef, undef], defers := [] })
    (fun pre x a' _ X Y row ⟨⟨h2, h3⟩, sb, h4, h5⟩ hg hr => ⟨⟨Own.from (holdsRow_own (w4.heap.size + 5) w.heap.size 33 3 1 (fun pre : List (Fin l.length) => pre.length) (fun pre => pre.map (fun y => Value.int .i64 (slAt l y.val).f2)) (fun _ _ => True)) _ pre X Y row h2 hg hr, h3.trans (Kq.of_grown hg (fun r e => ⟨by have := (hr r e).1; omega, by have := (hr r e).1; omega⟩) (by have := h3.below.size; omega))⟩, sb,
      (hg.block sb (blk_lt h4) (fun e => by obtain ⟨o, ho, hc⟩ := (hr sb e.symm).2; rw [show X.heap[sb]? = _ from h4] at ho; cases ho; cases hc)).trans h4, h5⟩)
    ?assign ?body ?done ?stop
  case assign =>
    intro l₁ pre x X K hsz ⟨⟨v, hv, hrow, _⟩, h3⟩ hlen hK
    simp only [encR, slV]
    gi_wp2
    have bX : Below X.heap.size X (X.alloc (.cells #[.int .i64 (slAt l x.val).f0, .int .i64 (slAt l x.val).f1, .int .i64 (slAt l x.val).f2] 41)) := (Below.refl _ _).alloc (Nat.le_refl _) _
    have kX := Kq.of_below (H := w.heap.size) (pp := fun k => k < w.heap.size + 3 ∧ k ≠ w.heap.size) bX (by omega)
    exact hK _ _ (Keeps.of_below bX) kX ⟨⟨⟨v, hv.alloc _, hrow.alloc _, trivial⟩, h3.trans kX⟩, X.heap.size, World.alloc_heap_new X _, rfl⟩
  case body =>
    rintro l₁ pre x a' X hsz ⟨⟨⟨v, hv, hrow, _⟩, h3⟩, sb, h4, rfl⟩ hlen
    have q0 : X.cell? ⟨sb, 2, none⟩ = some (.int .i64 (slAt l x.val).f2) := (blk_cell h4 2).trans rfl
    have hc := hv.cell
    have H3 := Aside0.mk h3
    clear h3 h4
    have hmap : (pre ++ [x]).map (fun y => Value.int .i64 (slAt l y.val).f2) = pre.map (fun y => Value.int .i64 (slAt l y.val).f2) ++ [Value.int .i64 (slAt l x.val).f2] := by rw [List.map_append]; rfl
    have HMAP := Aside0.mk hmap
    clear hmap
    obtain ⟨s2', e2⟩ : ∃ s2', (slAt l x.val).f2 = s2' := ⟨_, rfl⟩
    rw [e2] at q0 HMAP
    have hN : l.length ≤ maxLen := by unfold maxLen; omega
    have hNb : l.length * 8 ≤ 140737488355328 := by omega
    gi_wp2_with (gi_at_builtin; go_loud (refine wpListIn_append_own _ rfl _ _ 33 rfl (w4.heap.size + 5) 3 i0 (.int .i64 0) 1 8 Try.underlying33 hi hz0 hz1 hz2 rfl (by decide) _ _ _ rfl (hrow.alloc _) ⟨X.heap.size, 0, none⟩ 1 1 [.int .i64 s2'] rfl rfl (cell_one_new _ _ _) (by simp [Value.oneCell']) (by omega) (by omega) (by simp; omega) ?_; intro v' w1 hown' hgrow _; obtain ⟨g', cap', rfl⟩ := ownsRow_succ hown'; have hv1 : Boxed w1 w.heap.size 33 v := (hv.alloc _).kept hgrow (hv.not_row (by decide) hrow); have hc1 := hv1.cell; have hf1 := hv1.frozen))
    have hgrow : (X.alloc (.cells #[.int .i64 s2'] 3)).grownBy w1 v.ownBlock := hgrow
    have ba : Below X.heap.size X (X.alloc (.cells #[.int .i64 s2'] 3)) := (Below.refl _ _).alloc (Nat.le_refl _) _
    have hrow2 := hrow.alloc (.cells #[.int .i64 s2'] 3)
    have sa : (X.alloc (.cells #[.int .i64 s2'] 3)).heap.size = X.heap.size + 1 := by simp
    have hk1 : Keeps w4.heap.size (w4.heap.size + 2) (w4.heap.size + 2 + 3) X (w1.setCell ⟨w.heap.size, 0, none⟩ (.slice (some ⟨g', 0, none⟩) (pre.length + 1) cap')) :=
      (Keeps.of_below ba).trans ((Keeps.of_grown hgrow (fun r e => ⟨.inr (row_block hrow2 r e).1, .inr (row_block hrow2 r e).2⟩)).trans (Keeps.set w1 0 _ (by omega) (by omega)))
    have hk2 : Kq w.heap.size (fun k => k < w.heap.size + 3 ∧ k ≠ w.heap.size) X (w1.setCell ⟨w.heap.size, 0, none⟩ (.slice (some ⟨g', 0, none⟩) (pre.length + 1) cap')) :=
      (Kq.of_below ba (by omega)).trans ((Kq.of_grown hgrow (fun r e => ⟨by have := (row_block hrow2 r e).1; omega, by have := (row_block hrow2 r e).1; omega⟩) (by omega)).trans (Kq.set 0 _ ⟨Nat.le_refl _, by omega⟩))
    refine ⟨hk1, hk2, ⟨_, hv1.set _, ?_, trivial⟩, H3.out.trans hk2⟩
    rw [HMAP.out, List.length_append]
    exact hown'.kept (grownBy_setCell' w1 w.heap.size _) (.inr (hv1.not_row (by decide) hown').symm)
  case done =>
    rintro D xs X hD hxs ⟨⟨v, hv, hrow, _⟩, h3⟩ hK
    obtain ⟨A2, c2, rfl⟩ : ∃ A2 c2, v = .slice A2 xs.length c2 := by
      rcases hrow.2 with ⟨rfl, hl⟩ | ⟨g, cap, cur, rfl, hb, hg, _⟩
      · exact ⟨none, 0, by rw [hl]⟩
      · exact ⟨_, _, rfl⟩
    have hc := hv.cell
    have hf := hv.frozen
    gi_wp2
    have hv2 := hv.set (.slice A2 xs.length c2)
    have hrow2 := hrow.kept (grownBy_setCell' X w.heap.size (.slice A2 xs.length c2)) (.inr (hv.not_row (by decide) hrow).symm)
    have hb2 := below_set (HU.out.trans h3.below) (v := .slice A2 xs.length c2) (g := w.heap.size) (j := 0) (Nat.le_refl _)
    have hK2 := (Below.heap_setCell X ⟨w.heap.size, 0, none⟩ (.slice A2 xs.length c2) D (by show D ≠ w.heap.size; omega)).trans hK
    obtain ⟨Z, hZ⟩ : ∃ Z, X.setCell ⟨w.heap.size, 0, none⟩ (.slice A2 xs.length c2) = Z := ⟨_, rfl⟩
    rw [hZ] at hv2 hb2 hK2 hrow2 ⊢
    refine ⟨by simp, .inl ⟨_, _, rfl, run_takeDeferred hK2, ?_⟩⟩
    have e2 : (Z.putObj D (.deferred none)).heap[w.heap.size]? = _ := (World.putObj_heap_other (by omega)).trans hv2
    have d2 : (Z.putObj D (.deferred none)).cell? ⟨w.heap.size, 0, none⟩ = some (.slice A2 xs.length c2) := (blk_cell e2 0).trans rfl
    have hbf := pw_below_grown hb2 _ hb2.size (grownBy_putObj' Z D (.deferred none)) (fun k e => by cases e; omega)
    have hfin := ownsRow_putObj hrow2 (.deferred none) hK2 rfl
    have hval : findV l p = xs.map (fun y => (slAt l y.val).f2) := by unfold findV; rw [← hxs, List.map_map]; rfl
    refine ⟨.slice A2 xs.length c2, by simp [results, Try.results9, go_sem, d2], .slice A2 xs.length c2, rfl, ?_, hbf⟩
    rw [hval]
    refine Kd.R_of_own (enc := Value.int .i64) (h1 := fun _ => rfl) (own_weaken (base := w4.heap.size + 5) (base' := w.heap.size) ?_ (by omega)) (fun _ _ => trivial)
    rw [List.length_map]
    have henc : encs (Value.int .i64) (xs.map (fun y => (slAt l y.val).f2)) = xs.map (fun y => Value.int .i64 (slAt l y.val).f2) := by unfold encs; rw [List.map_map]; rfl
    rw [henc]
    exact hfin
  case stop =>
    rintro D c' xs X hD hxs h hK
    exact h.elim
end Go.Proofs.Ytnmafncghbkogaa.X
