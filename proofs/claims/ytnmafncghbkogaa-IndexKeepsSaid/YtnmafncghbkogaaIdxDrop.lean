/- index.Drop, walked. -/
import Derived.Test.YtnmafncghbkogaaIdxPut
namespace Go.Proofs.Ytnmafncghbkogaa.X
open Go.RowKit Go.Shelf Go.Proofs.Ytnmafncghbkogaa.PAll Go.Proofs.YtnmafncghbkogaaW.PrintWords Go.Proofs.YtnmafncghbkogaaW.PrintLast Go.Proofs.YtnmafncghbkogaaW.PrintMore
attribute [local go_sem] Oper.semAt_some
set_option linter.unusedVariables false
set_option linter.unusedSimpArgs false
def isPlace (l : List Sl) (place : Int) (k : Nat) : Bool := (slAt l k).f2 == place
def dropV (l : List Sl) (p place : Int) : List Sl :=
  match (usedN l p).find? (isPlace l place) with
    | none => l
    | some k => l.set k ⟨2, 0, 0⟩
theorem find_none_ofU {l : List Sl} {p place : Int} {xs : List (Fin l.length)} (h : xs.map Fin.val = usedN l p) (hn : ∀ x ∈ xs, (slAt l x.val).f2 ≠ place) : (usedN l p).find? (isPlace l place) = none := by
  rw [List.find?_eq_none, ← h]
  intro k hk
  obtain ⟨x, hx, rfl⟩ := List.mem_map.1 hk
  unfold isPlace
  simpa using hn x hx
theorem find_some_ofU {l : List Sl} {p place : Int} {pre : List (Fin l.length)} {x : Fin l.length} (h : (pre ++ [x]).map Fin.val <+: usedN l p) (hn : ∀ y ∈ pre, (slAt l y.val).f2 ≠ place) (hx : (slAt l x.val).f2 = place) :
    (usedN l p).find? (isPlace l place) = some x.val := by
  obtain ⟨t, ht⟩ := h
  rw [← ht, List.map_append, List.append_assoc]
  exact find_app (fun y hy => by obtain ⟨z, hz, rfl⟩ := List.mem_map.1 hy; unfold isPlace; exact beq_eq_false_iff_ne.mpr (hn z hz)) (by unfold isPlace; exact beq_iff_eq.mpr hx)
set_option maxRecDepth 100000 in
set_option maxHeartbeats 4000000 in
theorem drop_any (P0_ : Nat → Prop) (A : Option Addr) (c : Nat) (l : List Sl) (p place : Int) (w : World) (hs0 : Kd.V kS 41 w w.heap.size (fun k_ => P0_ k_) (.slice A l.length c) l) (hlm : l.length ≤ 100000) :
    Calls Try.prog 7 #[.slice A l.length c, .int .i64 p, .int .i64 place] w fun e w' => ∃ v0_ : Value, e = .returned (v0_) ∧ Kd.V kS 41 w' w.heap.size (fun k_ => (P0_ k_ ∨ w.heap.size ≤ k_)) v0_ (dropV l p place) ∧ Below w.heap.size w w' := by
  obtain ⟨_, hcc, hC⟩ := Kd.V_reads' hs0
  obtain ⟨v0, h0⟩ : ∃ z : World, w.alloc (.cells #[.slice A l.length c] 24) = z := ⟨_, rfl⟩
  obtain ⟨v1, h1⟩ : ∃ z : World, v0.alloc (.cells #[.int .i64 place] 3) = z := ⟨_, rfl⟩
  obtain ⟨v2, h2⟩ : ∃ z : World, v1.alloc (.cells #[.slice none 0 0] 24) = z := ⟨_, rfl⟩
  obtain ⟨u0, h3⟩ : ∃ z : World, v2.alloc (.cells #[.slice A l.length c] 24) = z := ⟨_, rfl⟩
  obtain ⟨u, h4⟩ : ∃ z : World, u0.alloc (.cells #[.int .i64 p] 3) = z := ⟨_, rfl⟩
  have s0 : v0.heap.size = w.heap.size + 1 := by rw [← h0]; simp
  have s1 : v1.heap.size = w.heap.size + 2 := by rw [← h1]; simp [s0]
  have s2 : v2.heap.size = w.heap.size + 3 := by rw [← h2]; simp [s1]
  have s3 : u0.heap.size = w.heap.size + 4 := by rw [← h3]; simp [s2]
  have s4 : u.heap.size = w.heap.size + 5 := by rw [← h4]; simp [s3]
  have b0 : Below w.heap.size w v0 := by rw [← h0]; exact (Below.refl _ _).alloc (Nat.le_refl _) _
  have b1 : Below v0.heap.size v0 v1 := by rw [← h1]; exact (Below.refl _ _).alloc (Nat.le_refl _) _
  have b2 : Below v1.heap.size v1 v2 := by rw [← h2]; exact (Below.refl _ _).alloc (Nat.le_refl _) _
  have b3 : Below v2.heap.size v2 u0 := by rw [← h3]; exact (Below.refl _ _).alloc (Nat.le_refl _) _
  have b4 : Below u0.heap.size u0 u := by rw [← h4]; exact (Below.refl _ _).alloc (Nat.le_refl _) _
  have f4 : Below u0.heap.size u0 u := b4
  have f3 : Below v2.heap.size v2 u := b3.trans (f4.mono (by omega))
  have f2 : Below v1.heap.size v1 u := b2.trans (f3.mono (by omega))
  have f1 : Below v0.heap.size v0 u := b1.trans (f2.mono (by omega))
  have f0 : Below w.heap.size w u := b0.trans (f1.mono (by omega))
  have k0 : u.heap[w.heap.size]? = some (.cells #[.slice A l.length c] 24 (0, 0)) := by have e_ := World.alloc_heap_new w (.cells #[.slice A l.length c] 24); rw [h0] at e_; exact (f1.block _ (by omega)).trans e_
  have k1 : u.heap[w.heap.size + 1]? = some (.cells #[.int .i64 place] 3 (0, 0)) := by have e_ := World.alloc_heap_new v0 (.cells #[.int .i64 place] 3); rw [s0, h1] at e_; exact (f2.block _ (by omega)).trans e_
  have k2 : u.heap[w.heap.size + 2]? = some (.cells #[.slice none 0 0] 24 (0, 0)) := by have e_ := World.alloc_heap_new v1 (.cells #[.slice none 0 0] 24); rw [s1, h2] at e_; exact (f3.block _ (by omega)).trans e_
  have k3 : u.heap[w.heap.size + 3]? = some (.cells #[.slice A l.length c] 24 (0, 0)) := by have e_ := World.alloc_heap_new v2 (.cells #[.slice A l.length c] 24); rw [s2, h3] at e_; exact (f4.block _ (by omega)).trans e_
  have k4 : u.heap[w.heap.size + 4]? = some (.cells #[.int .i64 p] 3 (0, 0)) := by have e_ := World.alloc_heap_new u0 (.cells #[.int .i64 p] 3); rw [s3, h4] at e_; exact e_
  have hv : ((w.alloc (.cells #[.slice A l.length c] 24)).alloc (.cells #[.int .i64 place] 3)).alloc (.cells #[.slice none 0 0] 24) = v2 := by rw [h0, h1, h2]
  have HU := Aside0.mk f0
  have k2' := (f3.block _ (by omega)).symm.trans k2
  have c0 : v2.cell? ⟨w.heap.size, 0, none⟩ = some (.slice A l.length c) := (blk_cell ((f3.block _ (by omega)).symm.trans k0) 0).trans rfl
  have HC := Aside0.mk hC
  have HS := Aside0.mk hs0
  have HRO := Aside0.mk (used_over 3 (w.heap.size + 3) (w.heap.size + 4) (fun k => k < w.heap.size + 5) (by omega) (by omega) A c l p w u hC hlm f0 (fun k hk => by omega) k3 k4)
  have HRI := Aside0.mk (used_in A l.length c p v2)
  have HV := Aside0.mk hv
  rw [h3, h4, s2] at HRI
  have K0 := Aside0.mk k0
  have K1 := Aside0.mk k1
  have K2 := Aside0.mk k2
  clear k0 k1 k2 k3 k4 f0 f1 f2 f3 f4 b0 b1 b2 b3 b4 h0 h1 h2 h3 h4 hC hs0
  refine (callsIn_wide (n := 8)).1 ?_
  refine callsIn_of_wp_marks Try.func7 rfl trivial ?_ rfl
  simp only [Try.ntmps7, List.size_toArray, List.length_cons, List.length_nil, Nat.reduceAdd, Nat.reduceSub, Array.replicate_succ, Array.replicate_zero, List.push_toArray, List.append_toArray, List.nil_append, List.cons_append]
  gi_wp2_with (refine ⟨trivial, (callsIn_wide.2 HRI.out).mono ?_⟩; rintro e w4 ⟨rfl, rfl⟩)
  refine wpIn_rangeOver (encs := encR l) (Kp := Kq w.heap.size (fun k => k < w.heap.size + 5)) (w0 := w4) rfl (by omega) (gf := 18) (lb := #[.pointer (some ⟨w.heap.size + 3, 0, none⟩), .pointer (some ⟨w.heap.size + 4, 0, none⟩)]) rfl trivial (fun _ _ => rfl)
    HRO.out Kq.trans (fun X k o o' hk ho => Kq.put o o' ⟨by omega, by omega⟩ ho (by have := blk_lt ho; omega)) (Below.refl _ _) (fun _ => rfl)
    (fun pre X => (∀ y ∈ pre, (slAt l y.val).f2 ≠ place) ∧ Kq w.heap.size (fun k => k < w.heap.size + 5) w4 X)
    (fun c' xs X => c' = .ret ∧ ∃ pre x v, xs = pre ++ [x] ∧ (∀ y ∈ pre, (slAt l y.val).f2 ≠ place) ∧ (slAt l x.val).f2 = place ∧ X.heap[w.heap.size + 2]? = some (.cells #[v] 24 (0, 0)) ∧
      kS.R 41 X w.heap.size (fun k => w.heap.size ≤ k) v (l.set x.val ⟨2, 0, 0⟩) ∧ Below w.heap.size w X)
    (fun pre X Y row ⟨h2, h3⟩ hg hr => ⟨h2, h3.trans (Kq.of_grown hg (fun r e => ⟨by have := (hr r e).1; omega, by have := (hr r e).1; omega⟩) (by have := h3.below.size; omega))⟩)
    (fun c' xs X Y row ⟨hc, pre, x, v, hx, hn, hne, h3, h5, h6⟩ hg hr => ⟨hc, pre, x, v, hx, hn, hne, blk_grown h3 hg (fun e => by have := (hr _ e.symm).1; omega), R_abide h5 hg (fun r e => (hr r e).2), pw_below_grown h6 row h6.size hg (fun k e => by have := (hr k e).1; omega)⟩)
    ⟨fun _ h => absurd h (by simp), Kq.refl _⟩
    (fun pre x a' X => (∀ y ∈ pre, (slAt l y.val).f2 ≠ place) ∧ Kq w.heap.size (fun k => k < w.heap.size + 5) w4 X ∧ ∃ sb, sBox X sb (slAt l x.val) ∧ a' = { tmps := #[.slice A l.length c, .int .i64 p, .int .i64 place, .pointer (some ⟨w.heap.size, 0, none⟩), undef, .pointer (some ⟨w.heap.size + 1, 0, none⟩), .pointer (some ⟨w.heap.size + 1 + 1, 0, none⟩), .int .i64 x.val, .pointer (some ⟨sb, 0, none⟩), .slice A l.length c, .int .i64 p, .func (.func 18) #[] #[.pointer (some ⟨w.heap.size + 3, 0, none⟩), .pointer (some ⟨w.heap.size + 3 + 1, 0, none⟩)], .int .i64 x.val, slV (slAt l x.val), undef, undef, undef, undef, undef, undef, undef, undef, undef], defers := [] })
    (fun pre x a' _ X Y row ⟨h2, h3, sb, h4, h5⟩ hg hr => ⟨h2, h3.trans (Kq.of_grown hg (fun r e => ⟨by have := (hr r e).1; omega, by have := (hr r e).1; omega⟩) (by have := h3.below.size; omega)), sb,
      (hg.block sb (blk_lt h4) (fun e => by obtain ⟨o, ho, hc⟩ := (hr sb e.symm).2; rw [show X.heap[sb]? = _ from h4] at ho; cases ho; cases hc)).trans h4, h5⟩)
    ?assign ?body ?done ?stop
  case assign =>
    intro l₁ pre x X K hsz ⟨h2, h3⟩ hlen hK
    simp only [encR, slV]
    gi_wp2
    have bX : Below X.heap.size X (X.alloc (.cells #[.int .i64 (slAt l x.val).f0, .int .i64 (slAt l x.val).f1, .int .i64 (slAt l x.val).f2] 41)) := (Below.refl _ _).alloc (Nat.le_refl _) _
    have kX := Kq.of_below (H := w.heap.size) (pp := fun k => k < w.heap.size + 5) bX (by omega)
    exact hK _ _ (Keeps.of_below bX) kX ⟨h2, h3.trans kX, X.heap.size, World.alloc_heap_new X _, rfl⟩
  case body =>
    rintro l₁ pre x a' X hsz ⟨h2, h3, sb, h4, rfl⟩ hlen
    have hx := x.isLt
    have hbX : Below w.heap.size w X := HU.out.trans h3.below
    have q0 : X.cell? ⟨sb, 2, none⟩ = some (.int .i64 (slAt l x.val).f2) := (blk_cell h4 2).trans rfl
    have g0 := (h3.same _ (by omega) (by omega)).trans K0.out
    have g1 := (h3.same _ (by omega) (by omega)).trans K1.out
    have g2 := (h3.same _ (by omega) (by omega)).trans K2.out
    have q3 : X.cell? ⟨w.heap.size, 0, none⟩ = some (.slice A l.length c) := (blk_cell g0 0).trans rfl
    have q4 : X.cell? ⟨w.heap.size + 1, 0, none⟩ = some (.int .i64 place) := (blk_cell g1 0).trans rfl
    have HWI := Aside0.mk (index_with.calls A c l (x.val : Int) 2 0 0 (l.set x.val ⟨2, 0, 0⟩) X (Kd.C_below HC.out hbX) hcc (with_f l x hlm 2 0 0))
    have H2 := Aside0.mk h2
    have H3 := Aside0.mk h3
    have HBX := Aside0.mk hbX
    have G2 := Aside0.mk g2
    clear h2 h3 h4 g0 g1 g2 hbX
    obtain ⟨s2', e2⟩ : ∃ s2', (slAt l x.val).f2 = s2' := ⟨_, rfl⟩
    rw [e2] at q0
    by_cases c0 : s2' = place
    · have d0 : (s2' == place) = true := beq_iff_eq.mpr c0
      have HE := Aside0.mk (e2.trans c0)
      clear e2 c0
      gi_wp2
      refine ⟨trivial, (CallsIn.inRound l₁ (callsIn_wide.2 HWI.out)).mono ?_⟩
      rintro e X' ⟨v0', rfl, hR0, hbX'⟩
      obtain ⟨A', c', rfl⟩ := Kd.V_slice (base := 0) (Kd.R_V (base' := 0) hR0)
      rw [List.length_set] at hR0
      have g2 := blk_below G2.out hbX'
      have q6 := blk_frozen g2 0
      have q8 : X'.cell? ⟨w.heap.size + 2, 0, none⟩ = some (.slice none 0 0) := (blk_cell g2 0).trans rfl
      gi_wp2
      have hb2 := HBX.out.trans (hbX'.mono HBX.out.size)
      have l3 : (X'.setCell ⟨w.heap.size + 2, 0, none⟩ (.slice A' l.length c')).heap[w.heap.size + 2]? = some (.cells #[.slice A' l.length c'] 24 (0, 0)) := blk_set g2 0 _
      have hb3 := below_set hb2 (v := .slice A' l.length c') (g := w.heap.size + 2) (j := 0) (show w.heap.size ≤ w.heap.size + 2 by omega)
      have hRf : kS.R 41 (X'.setCell ⟨w.heap.size + 2, 0, none⟩ (.slice A' l.length c')) X.heap.size (fun _ => True) (.slice A' l.length c') (l.set x.val ⟨2, 0, 0⟩) :=
        Kd.R_grown2 hR0 rfl (grownBy_setCell' X' (w.heap.size + 2) _) (fun k e he => by have := Kd.R_base hR0 k he.symm; cases e; omega)
      exact ⟨(Keeps.of_below hbX').trans (Keeps.set X' 0 _ (by omega) (by omega)), rfl, pre, x, _, rfl, H2.out, HE.out, l3, Kd.R_lower (Kd.R_mono (Kd.R_bound hRf) (fun k hk => by have := hk.2.1; omega)) HBX.out.size, hb3⟩
    · have d0 : (s2' == place) = false := beq_eq_false_iff_ne.mpr c0
      have HE := Aside0.mk (show (slAt l x.val).f2 ≠ place by rw [e2]; exact c0)
      clear e2 c0 HWI
      gi_wp2
      exact ⟨Keeps.refl _ _ _ _, Kq.refl _, fun y hy => by
        rcases List.mem_append.1 hy with h | h
        · exact H2.out y h
        · rw [List.mem_singleton] at h; rw [h]; exact HE.out, H3.out⟩
  case done =>
    rintro D xs X hD hxs ⟨h2, h3⟩ hK
    have g0 := (h3.same _ (by omega) (by omega)).trans K0.out
    have g2 := (h3.same _ (by omega) (by omega)).trans K2.out
    have q3 : X.cell? ⟨w.heap.size, 0, none⟩ = some (.slice A l.length c) := (blk_cell g0 0).trans rfl
    have q6 := blk_frozen g2 0
    have q8 : X.cell? ⟨w.heap.size + 2, 0, none⟩ = some (.slice none 0 0) := (blk_cell g2 0).trans rfl
    have hR : dropV l p place = l := by unfold dropV; rw [find_none_ofU hxs h2]
    gi_wp2
    have k2'' := blk_set g2 0 (.slice A l.length c)
    have hb2 := below_set (HU.out.trans h3.below) (v := .slice A l.length c) (g := w.heap.size + 2) (j := 0) (show w.heap.size ≤ w.heap.size + 2 by omega)
    have hK2 := (Below.heap_setCell X ⟨w.heap.size + 2, 0, none⟩ (.slice A l.length c) D (by show D ≠ w.heap.size + 2; omega)).trans hK
    obtain ⟨Z, hZ⟩ : ∃ Z, X.setCell ⟨w.heap.size + 2, 0, none⟩ (.slice A l.length c) = Z := ⟨_, rfl⟩
    rw [hZ] at k2'' hb2 hK2
    have hZ' : X.setCell ⟨w.heap.size + 1 + 1, 0, none⟩ (.slice A l.length c) = Z := hZ
    rw [hZ']
    refine ⟨by simp, .inl ⟨_, _, rfl, run_takeDeferred hK2, ?_⟩⟩
    have e2 : (Z.putObj D (.deferred none)).heap[w.heap.size + 2]? = _ := (World.putObj_heap_other (by omega)).trans k2''
    have d2 : (Z.putObj D (.deferred none)).cell? ⟨w.heap.size + 2, 0, none⟩ = some (.slice A l.length c) := (blk_cell e2 0).trans rfl
    have hbf := pw_below_grown hb2 _ hb2.size (grownBy_putObj' Z D (.deferred none)) (fun k e => by cases e; omega)
    refine ⟨.slice A l.length c, by simp [results, Try.results7, go_sem, d2], .slice A l.length c, rfl, by rw [hR]; exact Kd.V_mono (Kd.V_below HS.out hbf) (fun k hk => .inl hk), hbf⟩
  case stop =>
    rintro D c' xs X hD hxs ⟨rfl, pre, x, v, rfl, hn, hne, h3, h5, h6⟩ hK
    have hR : dropV l p place = l.set x.val ⟨2, 0, 0⟩ := by unfold dropV; rw [find_some_ofU hxs hn hne]
    gi_wp2
    refine ⟨by simp, .inl ⟨_, _, rfl, run_takeDeferred hK, ?_⟩⟩
    have e3 : (X.putObj D (.deferred none)).heap[w.heap.size + 2]? = _ := (World.putObj_heap_other (by omega)).trans h3
    have d3 := blk_cell e3 0
    have hg := grownBy_putObj' X D (.deferred none)
    refine ⟨v, by simp [results, Try.results7, go_sem, d3], v, rfl, by rw [hR]; exact Kd.V_mono (Kd.R_V (R_abide h5 hg (fun r e => by cases e; exact ⟨_, hK, rfl⟩))) (fun k hk => .inr hk), ?_⟩
    exact pw_below_grown h6 _ h6.size hg (fun k e => by cases e; omega)
end Go.Proofs.Ytnmafncghbkogaa.X
