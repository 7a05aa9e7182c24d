/- index.Put, walked. -/
import Derived.Test.YtnmafncghbkogaaIdxWith
namespace Go.Proofs.Ytnmafncghbkogaa.X
open Go.RowKit Go.Shelf Go.Proofs.Ytnmafncghbkogaa.PAll Go.Proofs.YtnmafncghbkogaaW.PrintWords Go.Proofs.YtnmafncghbkogaaW.PrintLast Go.Proofs.YtnmafncghbkogaaW.PrintMore
attribute [local go_sem] Oper.semAt_some
set_option linter.unusedVariables false
set_option linter.unusedSimpArgs false
/-- The first slot of these that isn't used. -/
def free1 (l : List Sl) (k : Nat) : Bool := (slAt l k).f0 != 1
def putV (l : List Sl) (p place : Int) : List Sl × Int :=
  if p < 0 then ([], 1) else match (roundN l p).find? (free1 l) with
    | none => ([], 40)
    | some k => (l.set k ⟨1, p, place⟩, 0)
theorem R_abide {X Y : World} {T base : Nat} {ok : Nat → Prop} {v : Value} {xs : List Sl} {row : Option Nat} (h : kS.R T X base ok v xs) (hg : X.grownBy Y row) (hr : ∀ r, row = some r → ∃ o, X.heap[r]? = some o ∧ o.isCells = false) : kS.R T Y base ok v xs :=
  Kd.R_grown2 h rfl hg (fun k e he => by
    obtain ⟨o, ho, hc⟩ := hr k e
    obtain ⟨h0, inner, how, hrr⟩ := h
    rcases how.2 with ⟨hv, _⟩ | ⟨g, cap, cur, rfl, hg, hh, _⟩
    · rw [hv] at he; simp [Value.ownBlock] at he
    · simp [Value.ownBlock] at he; subst he; rw [hh] at ho; cases ho; cases hc)
theorem putV_neg {l : List Sl} {p place : Int} (h : p < 0) : putV l p place = ([], 1) := by unfold putV; rw [if_pos h]
theorem find_none_of {l : List Sl} {p : Int} {xs : List (Fin l.length)} (h : xs.map Fin.val = roundN l p) (hn : ∀ x ∈ xs, (slAt l x.val).f0 = 1) : (roundN l p).find? (free1 l) = none := by
  rw [List.find?_eq_none, ← h]
  intro k hk
  obtain ⟨x, hx, rfl⟩ := List.mem_map.1 hk
  unfold free1
  rw [hn x hx]; simp
theorem find_app {α : Type} {q : α → Bool} : ∀ {a b : List α} {x : α}, (∀ y ∈ a, q y = false) → q x = true → (a ++ x :: b).find? q = some x
  | [], b, x, _, hx => by rw [List.nil_append, List.find?_cons_of_pos hx]
  | y :: a, b, x, h, hx => by rw [List.cons_append, List.find?_cons_of_neg (by rw [h y (by simp)]; simp)]; exact find_app (fun z hz => h z (by simp [hz])) hx
theorem find_some_of {l : List Sl} {p : Int} {pre : List (Fin l.length)} {x : Fin l.length} {k : Nat} (hp : 0 ≤ p) (hk : k ≤ l.length) (h : (pre ++ [x]).map Fin.val = ordL l.length p k) (hn : ∀ y ∈ pre, (slAt l y.val).f0 = 1) (hx : (slAt l x.val).f0 ≠ 1) :
    (roundN l p).find? (free1 l) = some x.val := by
  obtain ⟨t, ht⟩ := ordL_prefix (p := p) hk
  unfold roundN
  rw [if_neg (by omega), ← ht, ← h, List.map_append, List.append_assoc]
  exact find_app (fun y hy => by obtain ⟨z, hz, rfl⟩ := List.mem_map.1 hy; unfold free1; rw [hn z hz]; rfl) (by unfold free1; exact bne_iff_ne.mpr hx)
theorem with_f (l : List Sl) (x : Fin l.length) (hlm : l.length ≤ 100000) (s0 s1 s2 : Int) : index_with.f l (x.val : Int) s0 s1 s2 = some (l.set x.val ⟨s0, s1, s2⟩) := by
  have hx := x.isLt
  unfold index_with.f slices_Clone_slot.f
  rw [if_pos (by omega), Option.bind_some, if_pos (by omega), if_pos (by omega), Int.toNat_natCast]
set_option maxRecDepth 100000 in
set_option maxHeartbeats 4000000 in
theorem put_any (A : Option Addr) (c : Nat) (l : List Sl) (p place : Int) (w : World) (hC : Kd.C kS w A l.length l) (hcc : l.length ≤ c) (hlm : l.length ≤ 100000) :
    Calls Try.prog 8 #[.slice A l.length c, .int .i64 p, .int .i64 place] w fun e w' => ∃ v0_ : Value, e = .returned (.tuple #[v0_, .int .i64 (putV l p place).2]) ∧ Kd.V kS 41 w' w.heap.size (fun k_ => w.heap.size ≤ k_) v0_ (putV l p place).1 ∧ Below w.heap.size w w' := by
  obtain ⟨v0, h0⟩ : ∃ z : World, w.alloc (.cells #[.slice A l.length c] 24) = z := ⟨_, rfl⟩
  obtain ⟨v1, h1⟩ : ∃ z : World, v0.alloc (.cells #[.int .i64 p] 3) = z := ⟨_, rfl⟩
  obtain ⟨v2, h2⟩ : ∃ z : World, v1.alloc (.cells #[.int .i64 place] 3) = z := ⟨_, rfl⟩
  obtain ⟨v3, h3⟩ : ∃ z : World, v2.alloc (.cells #[.slice none 0 0] 24) = z := ⟨_, rfl⟩
  obtain ⟨v4, h4⟩ : ∃ z : World, v3.alloc (.cells #[.int .i64 0] 30) = z := ⟨_, rfl⟩
  obtain ⟨u0, h5⟩ : ∃ z : World, v4.alloc (.cells #[.slice A l.length c] 24) = z := ⟨_, rfl⟩
  obtain ⟨u, h6⟩ : ∃ z : World, u0.alloc (.cells #[.int .i64 p] 3) = z := ⟨_, rfl⟩
  have s0 : v0.heap.size = w.heap.size + 1 := by rw [← h0]; simp
  have s1 : v1.heap.size = w.heap.size + 2 := by rw [← h1]; simp [s0]
  have s2 : v2.heap.size = w.heap.size + 3 := by rw [← h2]; simp [s1]
  have s3 : v3.heap.size = w.heap.size + 4 := by rw [← h3]; simp [s2]
  have s4 : v4.heap.size = w.heap.size + 5 := by rw [← h4]; simp [s3]
  have s5 : u0.heap.size = w.heap.size + 6 := by rw [← h5]; simp [s4]
  have s6 : u.heap.size = w.heap.size + 7 := by rw [← h6]; simp [s5]
  have b0 : Below w.heap.size w v0 := by rw [← h0]; exact (Below.refl _ _).alloc (Nat.le_refl _) _
  have b1 : Below v0.heap.size v0 v1 := by rw [← h1]; exact (Below.refl _ _).alloc (Nat.le_refl _) _
  have b2 : Below v1.heap.size v1 v2 := by rw [← h2]; exact (Below.refl _ _).alloc (Nat.le_refl _) _
  have b3 : Below v2.heap.size v2 v3 := by rw [← h3]; exact (Below.refl _ _).alloc (Nat.le_refl _) _
  have b4 : Below v3.heap.size v3 v4 := by rw [← h4]; exact (Below.refl _ _).alloc (Nat.le_refl _) _
  have b5 : Below v4.heap.size v4 u0 := by rw [← h5]; exact (Below.refl _ _).alloc (Nat.le_refl _) _
  have b6 : Below u0.heap.size u0 u := by rw [← h6]; exact (Below.refl _ _).alloc (Nat.le_refl _) _
  have f6 : Below u0.heap.size u0 u := b6
  have f5 : Below v4.heap.size v4 u := b5.trans (f6.mono (by omega))
  have f4 : Below v3.heap.size v3 u := b4.trans (f5.mono (by omega))
  have f3 : Below v2.heap.size v2 u := b3.trans (f4.mono (by omega))
  have f2 : Below v1.heap.size v1 u := b2.trans (f3.mono (by omega))
  have f1 : Below v0.heap.size v0 u := b1.trans (f2.mono (by omega))
  have f0 : Below w.heap.size w u := b0.trans (f1.mono (by omega))
  have k0 : u.heap[w.heap.size]? = some (.cells #[.slice A l.length c] 24 (0, 0)) := by have e_ := World.alloc_heap_new w (.cells #[.slice A l.length c] 24); rw [h0] at e_; exact (f1.block _ (by omega)).trans e_
  have k1 : u.heap[w.heap.size + 1]? = some (.cells #[.int .i64 p] 3 (0, 0)) := by have e_ := World.alloc_heap_new v0 (.cells #[.int .i64 p] 3); rw [s0, h1] at e_; exact (f2.block _ (by omega)).trans e_
  have k2 : u.heap[w.heap.size + 2]? = some (.cells #[.int .i64 place] 3 (0, 0)) := by have e_ := World.alloc_heap_new v1 (.cells #[.int .i64 place] 3); rw [s1, h2] at e_; exact (f3.block _ (by omega)).trans e_
  have k3 : u.heap[w.heap.size + 3]? = some (.cells #[.slice none 0 0] 24 (0, 0)) := by have e_ := World.alloc_heap_new v2 (.cells #[.slice none 0 0] 24); rw [s2, h3] at e_; exact (f4.block _ (by omega)).trans e_
  have k4 : u.heap[w.heap.size + 4]? = some (.cells #[.int .i64 0] 30 (0, 0)) := by have e_ := World.alloc_heap_new v3 (.cells #[.int .i64 0] 30); rw [s3, h4] at e_; exact (f5.block _ (by omega)).trans e_
  have k5 : u.heap[w.heap.size + 5]? = some (.cells #[.slice A l.length c] 24 (0, 0)) := by have e_ := World.alloc_heap_new v4 (.cells #[.slice A l.length c] 24); rw [s4, h5] at e_; exact (f6.block _ (by omega)).trans e_
  have k6 : u.heap[w.heap.size + 6]? = some (.cells #[.int .i64 p] 3 (0, 0)) := by have e_ := World.alloc_heap_new u0 (.cells #[.int .i64 p] 3); rw [s5, h6] at e_; exact e_
  have hv : ((((w.alloc (.cells #[.slice A l.length c] 24)).alloc (.cells #[.int .i64 p] 3)).alloc (.cells #[.int .i64 place] 3)).alloc (.cells #[.slice none 0 0] 24)).alloc (.cells #[.int .i64 0] 30) = v4 := by rw [h0, h1, h2, h3, h4]
  have HU := Aside0.mk f0
  have c0 : v4.cell? ⟨w.heap.size, 0, none⟩ = some (.slice A l.length c) := (blk_cell ((f5.block _ (by omega)).symm.trans k0) 0).trans rfl
  have c1 : v4.cell? ⟨w.heap.size + 1, 0, none⟩ = some (.int .i64 p) := (blk_cell ((f5.block _ (by omega)).symm.trans k1) 0).trans rfl
  have k3' := (f5.block _ (by omega)).symm.trans k3
  have k4' := (f5.block _ (by omega)).symm.trans k4
  have c3 := blk_frozen k3' 0
  have c4 := blk_frozen k4' 0
  have c5 : v4.cell? ⟨w.heap.size + 3, 0, none⟩ = some (.slice none 0 0) := (blk_cell k3' 0).trans rfl
  have c6 : v4.cell? ⟨w.heap.size + 4, 0, none⟩ = some (.int .i64 0) := (blk_cell k4' 0).trans rfl
  have HB4 := Aside0.mk (show Below w.heap.size w v4 from (((b0.trans (b1.mono (by omega))).trans (b2.mono (by omega))).trans (b3.mono (by omega))).trans (b4.mono (by omega)))
  have HC := Aside0.mk hC
  have HRO := Aside0.mk (round_over 6 (w.heap.size + 6) (w.heap.size + 5) (fun k => k < w.heap.size + 7) (by omega) (by omega) A c l p w u hC hlm f0 k6 k5)
  have HRI := Aside0.mk (round_in A l.length c p v4)
  have HV := Aside0.mk hv
  rw [h5, h6, s4] at HRI
  have K0 := Aside0.mk k0
  have K1 := Aside0.mk k1
  have K2 := Aside0.mk k2
  have K3 := Aside0.mk k3
  have K4 := Aside0.mk k4
  clear k0 k1 k2 k3 k4 k5 k6 f0 f1 f2 f3 f4 f5 f6 b0 b1 b2 b3 b4 b5 b6 h0 h1 h2 h3 h4 h5 h6 hC
  refine (callsIn_wide (n := 8)).1 ?_
  refine callsIn_of_wp_marks Try.func8 rfl trivial ?_ rfl
  simp only [Try.ntmps8, List.size_toArray, List.length_cons, List.length_nil, Nat.reduceAdd, Nat.reduceSub, Array.replicate_succ, Array.replicate_zero, List.push_toArray, List.append_toArray, List.nil_append, List.cons_append]
  by_cases hp : p < 0
  · have hd : decide (p < 0) = true := decide_eq_true hp
    gi_wp2
    have k3'' := blk_far (blk_set k3' 0 (.slice none 0 0)) (p := ⟨w.heap.size + 4, 0, none⟩) (by show w.heap.size + 3 ≠ w.heap.size + 4; omega) (.int .i64 1)
    have k4'' := blk_set (blk_far k4' (p := ⟨w.heap.size + 3, 0, none⟩) (by show w.heap.size + 4 ≠ w.heap.size + 3; omega) (.slice none 0 0)) 0 (.int .i64 1)
    have d3 : ((v4.setCell ⟨w.heap.size + 3, 0, none⟩ (.slice none 0 0)).setCell ⟨w.heap.size + 4, 0, none⟩ (.int .i64 1)).cell? ⟨w.heap.size + 3, 0, none⟩ = some (.slice none 0 0) := (blk_cell k3'' 0).trans rfl
    have d4 : ((v4.setCell ⟨w.heap.size + 3, 0, none⟩ (.slice none 0 0)).setCell ⟨w.heap.size + 4, 0, none⟩ (.int .i64 1)).cell? ⟨w.heap.size + 4, 0, none⟩ = some (.int .i64 1) := (blk_cell k4'' 0).trans rfl
    refine ⟨.tuple #[.slice none 0 0, .int .i64 1], by simp [results, Try.results8, go_sem, d3, d4], .slice none 0 0, by rw [putV_neg hp], by rw [putV_neg hp]; exact Kd.V_nil _ _ _ _ _, ?_⟩
    exact below_set (below_set HB4.out (show w.heap.size ≤ w.heap.size + 3 by omega)) (show w.heap.size ≤ w.heap.size + 4 by omega)
  · have hd : decide (p < 0) = false := decide_eq_false hp
    gi_wp2_with (refine ⟨trivial, (callsIn_wide.2 HRI.out).mono ?_⟩; rintro e w4 ⟨rfl, rfl⟩)
    refine wpIn_rangeOver (encs := encR l) (Kp := Kq w.heap.size (fun k => k < w.heap.size + 7)) (w0 := w4) rfl (by omega) (gf := 20) (lb := #[.pointer (some ⟨w.heap.size + 6, 0, none⟩), .pointer (some ⟨w.heap.size + 5, 0, none⟩)]) rfl trivial (fun _ _ => rfl)
      HRO.out Kq.trans (fun X k o o' hk ho => Kq.put o o' ⟨by omega, by omega⟩ ho (by have := blk_lt ho; omega)) (Below.refl _ _) (fun _ => rfl)
      (fun pre X => (∀ y ∈ pre, (slAt l y.val).f0 = 1) ∧ Kq w.heap.size (fun k => k < w.heap.size + 7) w4 X)
      (fun c' xs X => c' = .ret ∧ ∃ pre x v, xs = pre ++ [x] ∧ (∀ y ∈ pre, (slAt l y.val).f0 = 1) ∧ (slAt l x.val).f0 ≠ 1 ∧ X.heap[w.heap.size + 3]? = some (.cells #[v] 24 (0, 0)) ∧ X.heap[w.heap.size + 4]? = some (.cells #[.int .i64 0] 30 (0, 0)) ∧
        kS.R 41 X w.heap.size (fun k => w.heap.size ≤ k) v (l.set x.val ⟨1, p, place⟩) ∧ Below w.heap.size w X)
      (fun pre X Y row ⟨h2, h3⟩ hg hr => ⟨h2, h3.trans (Kq.of_grown hg (fun r e => ⟨by have := (hr r e).1; omega, by have := (hr r e).1; omega⟩) (by have := h3.below.size; omega))⟩)
      (fun c' xs X Y row ⟨hc, pre, x, v, hx, hn, hne, h3, h4, h5, h6⟩ hg hr => ⟨hc, pre, x, v, hx, hn, hne, blk_grown h3 hg (fun e => by have := (hr _ e.symm).1; omega), blk_grown h4 hg (fun e => by have := (hr _ e.symm).1; omega), R_abide h5 hg (fun r e => (hr r e).2), pw_below_grown h6 row h6.size hg (fun k e => by have := (hr k e).1; omega)⟩)
      ⟨fun _ h => absurd h (by simp), Kq.refl _⟩
      (fun pre x a' X => (∀ y ∈ pre, (slAt l y.val).f0 = 1) ∧ Kq w.heap.size (fun k => k < w.heap.size + 7) w4 X ∧ ∃ sb, sBox X sb (slAt l x.val) ∧ a' = { tmps := #[.slice A l.length c, .int .i64 p, .int .i64 place, .pointer (some ⟨w.heap.size, 0, none⟩), .pointer (some ⟨w.heap.size + 1, 0, none⟩), .pointer (some ⟨w.heap.size + 1 + 1, 0, none⟩), .pointer (some ⟨w.heap.size + 1 + 1 + 1, 0, none⟩), .pointer (some ⟨w.heap.size + 1 + 1 + 1 + 1, 0, none⟩), .int .i64 x.val, .pointer (some ⟨sb, 0, none⟩), .int .i64 p, .bool false, .slice A l.length c, .int .i64 p, .func (.func 20) #[] #[.pointer (some ⟨w.heap.size + 5 + 1, 0, none⟩), .pointer (some ⟨w.heap.size + 5, 0, none⟩)], .int .i64 x.val, slV (slAt l x.val), undef, undef, undef, undef, undef, undef, undef, undef, undef], defers := [] })
      (fun pre x a' _ X Y row ⟨h2, h3, sb, h4, h5⟩ hg hr => ⟨h2, h3.trans (Kq.of_grown hg (fun r e => ⟨by have := (hr r e).1; omega, by have := (hr r e).1; omega⟩) (by have := h3.below.size; omega)), sb,
        (hg.block sb (blk_lt h4) (fun e => by obtain ⟨o, ho, hc⟩ := (hr sb e.symm).2; rw [show X.heap[sb]? = _ from h4] at ho; cases ho; cases hc)).trans h4, h5⟩)
      ?assign ?body ?done ?stop
    case assign =>
      intro l₁ pre x X K hsz ⟨h2, h3⟩ hlen hK
      simp only [encR, slV]
      gi_wp2
      have bX : Below X.heap.size X (X.alloc (.cells #[.int .i64 (slAt l x.val).f0, .int .i64 (slAt l x.val).f1, .int .i64 (slAt l x.val).f2] 41)) := (Below.refl _ _).alloc (Nat.le_refl _) _
      have kX := Kq.of_below (H := w.heap.size) (pp := fun k => k < w.heap.size + 7) bX (by omega)
      exact hK _ _ (Keeps.of_below bX) kX ⟨h2, h3.trans kX, X.heap.size, World.alloc_heap_new X _, rfl⟩
    case body =>
      rintro l₁ pre x a' X hsz ⟨h2, h3, sb, h4, rfl⟩ hlen
      have hx := x.isLt
      have hbX : Below w.heap.size w X := HU.out.trans h3.below
      have q0 : X.cell? ⟨sb, 0, none⟩ = some (.int .i64 (slAt l x.val).f0) := (blk_cell h4 0).trans rfl
      have g0 := (h3.same _ (by omega) (by omega)).trans K0.out
      have g1 := (h3.same _ (by omega) (by omega)).trans K1.out
      have g2 := (h3.same _ (by omega) (by omega)).trans K2.out
      have g3 := (h3.same _ (by omega) (by omega)).trans K3.out
      have g4 := (h3.same _ (by omega) (by omega)).trans K4.out
      have q3 : X.cell? ⟨w.heap.size, 0, none⟩ = some (.slice A l.length c) := (blk_cell g0 0).trans rfl
      have q4 : X.cell? ⟨w.heap.size + 1, 0, none⟩ = some (.int .i64 p) := (blk_cell g1 0).trans rfl
      have q5 : X.cell? ⟨w.heap.size + 2, 0, none⟩ = some (.int .i64 place) := (blk_cell g2 0).trans rfl
      have HWI := Aside0.mk (index_with.calls A c l (x.val : Int) 1 p place (l.set x.val ⟨1, p, place⟩) X (Kd.C_below HC.out hbX) hcc (with_f l x hlm 1 p place))
      have H2 := Aside0.mk h2
      have H3 := Aside0.mk h3
      have HBX := Aside0.mk hbX
      have G3 := Aside0.mk g3
      have G4 := Aside0.mk g4
      clear h2 h3 h4 g0 g1 g2 g3 g4 hbX
      obtain ⟨s0', e0⟩ : ∃ s0', (slAt l x.val).f0 = s0' := ⟨_, rfl⟩
      rw [e0] at q0
      by_cases c0 : s0' = 1
      · have d0 : (s0' != 1) = false := bne_eq_false_iff_eq.mpr c0
        have HE := Aside0.mk (e0.trans c0)
        clear e0 c0 HWI
        gi_wp2
        exact ⟨Keeps.refl _ _ _ _, Kq.refl _, fun y hy => by
          rcases List.mem_append.1 hy with h | h
          · exact H2.out y h
          · rw [List.mem_singleton] at h; rw [h]; exact HE.out, H3.out⟩
      · have d0 : (s0' != 1) = true := bne_iff_ne.mpr c0
        have HE := Aside0.mk (show (slAt l x.val).f0 ≠ 1 by rw [e0]; exact c0)
        clear e0 c0
        gi_wp2
        refine ⟨trivial, (CallsIn.inRound l₁ (callsIn_wide.2 HWI.out)).mono ?_⟩
        rintro e X' ⟨v0', rfl, hR0, hbX'⟩
        obtain ⟨A', c', rfl⟩ := Kd.V_slice (base := 0) (Kd.R_V (base' := 0) hR0)
        rw [List.length_set] at hR0
        have g3 := blk_below G3.out hbX'
        have g4 := blk_below G4.out hbX'
        have q6 := blk_frozen g3 0
        have q7 := blk_frozen g4 0
        have q8 : X'.cell? ⟨w.heap.size + 3, 0, none⟩ = some (.slice none 0 0) := (blk_cell g3 0).trans rfl
        have q9 : X'.cell? ⟨w.heap.size + 4, 0, none⟩ = some (.int .i64 0) := (blk_cell g4 0).trans rfl
        gi_wp2
        have hb2 := HBX.out.trans (hbX'.mono HBX.out.size)
        have l3 : (X'.setCell ⟨w.heap.size + 3, 0, none⟩ (.slice A' l.length c')).heap[w.heap.size + 3]? = some (.cells #[.slice A' l.length c'] 24 (0, 0)) := blk_set g3 0 _
        have k3'' := blk_far l3 (p := ⟨w.heap.size + 4, 0, none⟩) (by show w.heap.size + 3 ≠ w.heap.size + 4; omega) (.int .i64 0)
        have k4'' : _ = some (Obj.cells #[.int .i64 0] 30 (0, 0)) := blk_set (blk_far g4 (p := ⟨w.heap.size + 3, 0, none⟩) (by show w.heap.size + 4 ≠ w.heap.size + 3; omega) (.slice A' l.length c')) 0 (.int .i64 0)
        have hb3 := below_set (below_set hb2 (v := .slice A' l.length c') (g := w.heap.size + 3) (j := 0) (show w.heap.size ≤ w.heap.size + 3 by omega)) (v := .int .i64 0) (g := w.heap.size + 4) (j := 0) (show w.heap.size ≤ w.heap.size + 4 by omega)
        have hRf : kS.R 41 ((X'.setCell ⟨w.heap.size + 3, 0, none⟩ (.slice A' l.length c')).setCell ⟨w.heap.size + 4, 0, none⟩ (.int .i64 0)) X.heap.size (fun _ => True) (.slice A' l.length c') (l.set x.val ⟨1, p, place⟩) :=
          Kd.R_grown2 (Kd.R_grown2 hR0 rfl (grownBy_setCell' X' (w.heap.size + 3) _) (fun k e he => by have := Kd.R_base hR0 k he.symm; cases e; omega)) rfl (grownBy_setCell' _ (w.heap.size + 4) _) (fun k e he => by have := Kd.R_base hR0 k he.symm; cases e; omega)
        exact ⟨(Keeps.of_below hbX').trans ((Keeps.set X' 0 _ (by omega) (by omega)).trans (Keeps.set _ 0 _ (by omega) (by omega))), rfl, pre, x, _, rfl, H2.out, HE.out, k3'', k4'', Kd.R_lower (Kd.R_mono (Kd.R_bound hRf) (fun k hk => by have := hk.2.1; omega)) HBX.out.size, hb3⟩
    case done =>
      rintro D xs X hD hxs ⟨h2, h3⟩ hK
      have g3 := (h3.same _ (by omega) (by omega)).trans K3.out
      have g4 := (h3.same _ (by omega) (by omega)).trans K4.out
      have q6 := blk_frozen g3 0
      have q7 := blk_frozen g4 0
      have q8 : X.cell? ⟨w.heap.size + 3, 0, none⟩ = some (.slice none 0 0) := (blk_cell g3 0).trans rfl
      have q9 : X.cell? ⟨w.heap.size + 4, 0, none⟩ = some (.int .i64 0) := (blk_cell g4 0).trans rfl
      have hR : putV l p place = ([], 40) := by unfold putV; rw [if_neg (by omega), find_none_of hxs h2]
      gi_wp2
      have k3'' := blk_far (blk_set g3 0 (.slice none 0 0)) (p := ⟨w.heap.size + 4, 0, none⟩) (by show w.heap.size + 3 ≠ w.heap.size + 4; omega) (.int .i64 40)
      have k4'' := blk_set (blk_far g4 (p := ⟨w.heap.size + 3, 0, none⟩) (by show w.heap.size + 4 ≠ w.heap.size + 3; omega) (.slice none 0 0)) 0 (.int .i64 40)
      have hb2 := below_set (below_set (HU.out.trans h3.below) (v := .slice none 0 0) (g := w.heap.size + 3) (j := 0) (show w.heap.size ≤ w.heap.size + 3 by omega)) (v := .int .i64 40) (g := w.heap.size + 4) (j := 0) (show w.heap.size ≤ w.heap.size + 4 by omega)
      have hK2 := (Below.heap_setCell _ ⟨w.heap.size + 4, 0, none⟩ (.int .i64 40) D (by show D ≠ w.heap.size + 4; omega)).trans ((Below.heap_setCell X ⟨w.heap.size + 3, 0, none⟩ (.slice none 0 0) D (by show D ≠ w.heap.size + 3; omega)).trans hK)
      obtain ⟨Z, hZ⟩ : ∃ Z, (X.setCell ⟨w.heap.size + 3, 0, none⟩ (.slice none 0 0)).setCell ⟨w.heap.size + 4, 0, none⟩ (.int .i64 40) = Z := ⟨_, rfl⟩
      rw [hZ] at k3'' k4'' hb2 hK2
      have hZ' : (X.setCell ⟨w.heap.size + 1 + 1 + 1, 0, none⟩ (.slice none 0 0)).setCell ⟨w.heap.size + 1 + 1 + 1 + 1, 0, none⟩ (.int .i64 40) = Z := hZ
      rw [hZ']
      refine ⟨by simp, .inl ⟨_, _, rfl, run_takeDeferred hK2, ?_⟩⟩
      have e3 : (Z.putObj D (.deferred none)).heap[w.heap.size + 3]? = _ := (World.putObj_heap_other (by omega)).trans k3''
      have e4 : (Z.putObj D (.deferred none)).heap[w.heap.size + 4]? = _ := (World.putObj_heap_other (by omega)).trans k4''
      have d3 : (Z.putObj D (.deferred none)).cell? ⟨w.heap.size + 3, 0, none⟩ = some (.slice none 0 0) := (blk_cell e3 0).trans rfl
      have d4 : (Z.putObj D (.deferred none)).cell? ⟨w.heap.size + 4, 0, none⟩ = some (.int .i64 40) := (blk_cell e4 0).trans rfl
      refine ⟨.tuple #[.slice none 0 0, .int .i64 40], by simp [results, Try.results8, go_sem, d3, d4], .slice none 0 0, by rw [hR], by rw [hR]; exact Kd.V_nil _ _ _ _ _, ?_⟩
      exact pw_below_grown hb2 _ hb2.size (grownBy_putObj' Z D (.deferred none)) (fun k e => by cases e; omega)
    case stop =>
      rintro D c' xs X hD ⟨hp0, k, hk, hxs⟩ ⟨rfl, pre, x, v, rfl, hn, hne, h3, h4, h5, h6⟩ hK
      have hR : putV l p place = (l.set x.val ⟨1, p, place⟩, 0) := by unfold putV; rw [if_neg (by omega), find_some_of hp0 hk hxs hn hne]
      gi_wp2
      refine ⟨by simp, .inl ⟨_, _, rfl, run_takeDeferred hK, ?_⟩⟩
      have e3 : (X.putObj D (.deferred none)).heap[w.heap.size + 3]? = _ := (World.putObj_heap_other (by omega)).trans h3
      have e4 : (X.putObj D (.deferred none)).heap[w.heap.size + 4]? = _ := (World.putObj_heap_other (by omega)).trans h4
      have d3 := blk_cell e3 0
      have d4 := blk_cell e4 0
      have hg := grownBy_putObj' X D (.deferred none)
      refine ⟨.tuple #[v, .int .i64 0], by simp [results, Try.results8, go_sem, d3, d4], v, by rw [hR], by rw [hR]; exact Kd.R_V (R_abide h5 hg (fun r e => by cases e; exact ⟨_, hK, rfl⟩)), ?_⟩
      exact pw_below_grown h6 _ h6.size hg (fun k e => by cases e; omega)
end Go.Proofs.Ytnmafncghbkogaa.X
