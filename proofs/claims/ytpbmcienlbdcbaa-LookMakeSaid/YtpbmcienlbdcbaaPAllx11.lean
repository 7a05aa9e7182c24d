/- Written by a program of this session (wip/xp) out of the translation: functions in plain Lean, and proofs that the calls come to these. -/
import Derived.Test.YtpbmcienlbdcbaaPAllx0
import Derived.Test.YtpbmcienlbdcbaaPAllx5
import Derived.Test.YtpbmcienlbdcbaaPAllx10
import Derived.Test.YtpbmcienlbdcbaaTagKit
namespace Go.Proofs.Ytpbmcienlbdcbaa.PAll
open Go.RowKit Go.Proofs.YtpbmcienlbdcbaaW.PrintWords Go.Proofs.YtpbmcienlbdcbaaW.PrintLast Go.Proofs.YtpbmcienlbdcbaaW.PrintMore
attribute [local go_sem] max2_int min2_int max_two min_two max_three min_three max_four min_four   -- for this text's walks alone
set_option linter.unusedVariables false
set_option linter.unusedSimpArgs false

-- XIMPORT TagKit
-- XPART
/-! ### tag_read: function 20 -/
-- A list is taken, and the rest stands where the text stood; or the call panics with the tag's error.
theorem take_any (k : Nat) (s : ByteArray) (r1 : List Int) (r2 : ByteArray) (r3 : Int) (g : Nat) (w : World) (hc : w.cell? ⟨g, 0, none⟩ = some (.string s)) (hf : w.frozen? ⟨g, 0, none⟩ = false) (h : pack_Unpack.f k s = some (r1, r2, r3)) :
  Calls Try.prog 32 #[.pointer (some ⟨g, 0, none⟩)] w fun e w' =>
   (r3 = 0 ∧ ∃ v W, e = .returned v ∧ Kd.R (Kd.int .i64) 3 W w.heap.size (fun _ => True) v r1 ∧ Below w.heap.size w W ∧ w' = W.setCell ⟨g, 0, none⟩ (.string r2)) ∨
   (r3 ≠ 0 ∧ e = .panicked [{ v := .iface 35 (.int .i64 30), recovered := false }] ∧ Below w.heap.size w w') := by
 have UP := Aside0.mk (pack_Unpack.calls k s r1 r2 r3 w h)
 have hlt := World.block_lt_of_cell? _ _ hc
 have HF := Aside0.mk (fun (W : World) (hb : Below w.heap.size w W) => (show (∃ x, W.cell? ⟨g, 0, none⟩ = some x) ∧ W.frozen? ⟨g, 0, none⟩ = false from ⟨⟨_, (hb.cell (p := ⟨g, 0, none⟩) hlt).trans hc⟩, (hb.frozen (p := ⟨g, 0, none⟩) hlt).trans hf⟩))
 by_cases hz : r3 = 0
 ·
  subst hz
  go_enter Try.func32, Try.ntmps32
  go_wp2_with (go_at_call 42; refine UP.out.mono ?_; rintro e w1 ⟨v, rfl, hv, hb⟩; obtain ⟨A1, c1, rfl⟩ := Kd.R_slice hv; have HV := Aside0.mk hv; have HB := Aside0.mk hb; obtain ⟨⟨x, q1⟩, q2⟩ := HF.out w1 hb; clear hv hb)
  go_ret
  exact .inl ⟨trivial, _, _, rfl, HV.out, HB.out, rfl⟩
 ·
  have hz2 : (r3 != 0) = true := bne_iff_ne.mpr hz
  go_enter Try.func32, Try.ntmps32
  go_wp2_with (go_at_call 42; refine UP.out.mono ?_; rintro e w1 ⟨v, rfl, hv, hb⟩; obtain ⟨A1, c1, rfl⟩ := Kd.R_slice hv; have HV := Aside0.mk hv; have HB := Aside0.mk hb; obtain ⟨⟨x, q1⟩, q2⟩ := HF.out w1 hb; clear hv hb)
  exact ⟨rfl, .inr ⟨hz, rfl, HB.out⟩⟩
set_option maxHeartbeats 2000000 in
-- The deferred call, where the function ends by a panic of the tag's.
theorem caught_panicking (p q : Nat) (c0 c1 c2 c3 c4 : Value) (older : List PanicEntry) (w : World) (h0 : w.heap[p]? = some (.cells #[c0, c1, c2, c3] 27 (0, 0))) (h1 : w.heap[q]? = some (.cells #[c4] 35 (0, 0))) (hpq : p ≠ q) :
  CallsD Try.prog 31 #[.pointer (some ⟨p, 0, none⟩), .pointer (some ⟨q, 0, none⟩)] (.panicking ({ v := .iface 35 (.int .i64 30), recovered := false } :: older)) w fun e u' w' =>
   e = .returned (.tuple #[]) ∧ u' = .panicking ({ v := .iface 35 (.int .i64 30), recovered := true } :: older) ∧
   w' = (((((w.setCell ⟨p, 0, none⟩ (.int .i64 0)).setCell ⟨p, 1, none⟩ (.int .i64 0)).setCell ⟨p, 2, none⟩ (.slice none 0 0)).setCell ⟨p, 3, none⟩ (.slice none 0 0)).setCell ⟨q, 0, none⟩ (.int .i64 30)).drew := by
 refine callsD_of_wpS Try.func31 rfl fun x₀ cs hu => ?_
 apply wpS_seq
 apply wpS_region
 simp [wpOpsS, go_sem, recoverD, hu, Try.ntmps31, Exit.thenS]
 apply wpS_seq
 apply wpS_region
 simp [wpOpsS, go_sem, recoverD, hu, Try.ntmps31, Exit.thenS, Array.replicate]
 refine wpS_cond (t := true) (by simp [Act.eval, Array.replicate]) ?_
 simp only [if_true]
 refine wpS_of_wp ?_
 have z0 := (blk_cell h0 0).trans rfl
 have z1 := (blk_cell h0 1).trans rfl
 have z2 := (blk_cell h0 2).trans rfl
 have z3 := (blk_cell h0 3).trans rfl
 have z4 := (blk_cell h1 0).trans rfl
 have y0 := blk_frozen h0 0
 have y1 := blk_frozen h0 1
 have y2 := blk_frozen h0 2
 have y3 := blk_frozen h0 3
 have y4 := blk_frozen h1 0
 have hta : ∀ W : World, (Instr.typeAssert (.iface 35 (.int .i64 30)) 20 35 false).run Try.prog W = .ok (.int .i64 30) W := fun W => by kernel_rfl
 go_region
 simp [bodyPostS, results, Try.results31]
theorem caught_idle (p q : Addr) (w : World) :
  CallsD Try.prog 31 #[.pointer (some p), .pointer (some q)] .returning w fun e u' w' => e = .returned (.tuple #[]) ∧ u' = .returning ∧ w' = w := by
 refine callsD_of_wpS Try.func31 rfl fun c₀ cs hu => ?_
 apply wpS_seq
 apply wpS_region
 simp [wpOpsS, go_sem, recoverD, hu, Try.ntmps31, Exit.thenS]
 apply wpS_seq
 apply wpS_region
 simp [wpOpsS, go_sem, recoverD, hu, Try.ntmps31, Exit.thenS, Array.replicate]
 refine wpS_cond (t := false) (by simp [Act.eval, Array.replicate]) ?_
 simp only [Bool.false_eq_true, if_false]
 refine wpS_of_wp (wp_skip ?_)
 cases c₀
 simp_all [bodyPostS, results, Try.results31]

def tag_read.f (k : Nat) (s : ByteArray) : Option (Int × Int × List Int × List Int × Int) :=
 (pack_Unpack.f k s).bind fun t1 => if t1.2.2 = 0 then (if t1.1.length = 2 then ((pack_Unpack.f k t1.2.1).bind fun t2 => if t2.2.2 = 0 then ((pack_Unpack.f k t2.2.1).bind fun t3 => if t3.2.2 = 0 then
  ((tag_moved.f t3.1 (-1)).bind fun m => some (t1.1.getD 0 0, t1.1.getD 1 0, t2.1, m, 0)) else some (0, 0, [], [], 30)) else some (0, 0, [], [], 30)) else some (0, 0, [], [], 30)) else some (0, 0, [], [], 30)
theorem tag_read.mono : ∀ a0 k, LeO (tag_read.f k a0) (tag_read.f (k + 1) a0) := by
 intro a0 k
 unfold tag_read.f
 repeat' first
  | (with_reducible exact pack_Unpack.mono _ _)
  | (with_reducible exact LeO.refl _)
  | (with_reducible exact LeO.none _)
  | (with_reducible refine LeO.ite ?_ ?_)
  | (with_reducible refine LeO.bind ?_ (fun _ => ?_))
theorem drew_heap (W : World) (g : Nat) (o : Option Obj) (h : W.heap[g]? = o) : W.drew.heap[g]? = o := h
-- Three blocks that are new.
theorem three (w : World) (a b c : Obj) : (((w.alloc a).alloc b).alloc c).heap[w.heap.size]? = some a ∧ (((w.alloc a).alloc b).alloc c).heap[w.heap.size + 1]? = some b ∧ (((w.alloc a).alloc b).alloc c).heap[w.heap.size + 1 + 1]? = some c := by
 have s1 : (w.alloc a).heap.size = w.heap.size + 1 := by simp
 have s2 : ((w.alloc a).alloc b).heap.size = w.heap.size + 1 + 1 := by simp
 refine ⟨?_, ?_, ?_⟩
 ·
  rw [Below.heap_alloc _ _ _ (by omega), Below.heap_alloc _ _ _ (by omega)]
  exact X.alloc_at w a
 ·
  rw [Below.heap_alloc _ _ _ (by omega), ← s1]
  exact X.alloc_at _ b
 ·
  rw [← s2]
  exact X.alloc_at _ c
-- What the two results' variables hold behind the deferred call.
theorem after_caught {p q : Nat} {c0 c1 c2 c3 c4 : Value} {w : World} (h0 : w.heap[p]? = some (.cells #[c0, c1, c2, c3] 27 (0, 0))) (h1 : w.heap[q]? = some (.cells #[c4] 35 (0, 0))) (hpq : p ≠ q) :
  (((((w.setCell ⟨p, 0, none⟩ (.int .i64 0)).setCell ⟨p, 1, none⟩ (.int .i64 0)).setCell ⟨p, 2, none⟩ (.slice none 0 0)).setCell ⟨p, 3, none⟩ (.slice none 0 0)).setCell ⟨q, 0, none⟩ (.int .i64 30)).drew.heap[p]? = some (.cells #[.int .i64 0, .int .i64 0, .slice none 0 0, .slice none 0 0] 27 (0, 0)) ∧
  (((((w.setCell ⟨p, 0, none⟩ (.int .i64 0)).setCell ⟨p, 1, none⟩ (.int .i64 0)).setCell ⟨p, 2, none⟩ (.slice none 0 0)).setCell ⟨p, 3, none⟩ (.slice none 0 0)).setCell ⟨q, 0, none⟩ (.int .i64 30)).drew.heap[q]? = some (.cells #[.int .i64 30] 35 (0, 0)) := by
 have a0 := blk_put h0 0 (.int .i64 0) rfl
 have a1 := blk_put a0 1 (.int .i64 0) rfl
 have a2 := blk_put a1 2 (.slice none 0 0) rfl
 have a3 := blk_put a2 3 (.slice none 0 0) rfl
 have b3 := blk_far (blk_far (blk_far (blk_far h1 (p := ⟨p, 0, none⟩) (Ne.symm hpq) (.int .i64 0)) (p := ⟨p, 1, none⟩) (Ne.symm hpq) (.int .i64 0)) (p := ⟨p, 2, none⟩) (Ne.symm hpq) (.slice none 0 0)) (p := ⟨p, 3, none⟩) (Ne.symm hpq) (.slice none 0 0)
 have f1 := blk_far a3 (p := ⟨q, 0, none⟩) hpq (.int .i64 30)
 have f2 := blk_put b3 0 (.int .i64 30) rfl
 exact ⟨drew_heap _ _ _ f1, drew_heap _ _ _ f2⟩
-- The deferred call's work, as the function's end sees it.
theorem caught_out (p q : Nat) (c0 c1 c2 c3 c4 : Value) (older : List PanicEntry) (B : Nat) (w0 w : World) (hp : B ≤ p) (hq : B ≤ q) (hB : Below B w0 w) (h0 : w.heap[p]? = some (.cells #[c0, c1, c2, c3] 27 (0, 0))) (h1 : w.heap[q]? = some (.cells #[c4] 35 (0, 0))) (hpq : p ≠ q) :
  CallsD Try.prog 31 #[.pointer (some ⟨p, 0, none⟩), .pointer (some ⟨q, 0, none⟩)] (.panicking ({ v := .iface 35 (.int .i64 30), recovered := false } :: older)) w fun e u' w' =>
   e = .returned (.tuple #[]) ∧ u' = .panicking ({ v := .iface 35 (.int .i64 30), recovered := true } :: older) ∧
   w'.cell? ⟨p, 0, none⟩ = some (.int .i64 0) ∧ w'.cell? ⟨p, 1, none⟩ = some (.int .i64 0) ∧ w'.cell? ⟨p, 2, none⟩ = some (.slice none 0 0) ∧ w'.cell? ⟨p, 3, none⟩ = some (.slice none 0 0) ∧ w'.cell? ⟨q, 0, none⟩ = some (.int .i64 30) ∧ Below B w0 w' := by
 refine (caught_panicking p q c0 c1 c2 c3 c4 older w h0 h1 hpq).mono ?_
 rintro e u' w'' ⟨rfl, rfl, rfl⟩
 obtain ⟨f1, f2⟩ := after_caught h0 h1 hpq
 exact ⟨rfl, rfl, (blk_cell f1 0).trans rfl, (blk_cell f1 1).trans rfl, (blk_cell f1 2).trans rfl, (blk_cell f1 3).trans rfl, (blk_cell f2 0).trans rfl, (((((hB.setCell (p := ⟨p, 0, none⟩) hp _).setCell (p := ⟨p, 1, none⟩) hp _).setCell (p := ⟨p, 2, none⟩) hp _).setCell (p := ⟨p, 3, none⟩) hp _).setCell (p := ⟨q, 0, none⟩) hq _).drew⟩
set_option maxHeartbeats 8000000 in
set_option maxRecDepth 100000 in
theorem read_fail1 (k : Nat) (s : ByteArray) (l1 : List Int) (t1 : ByteArray) (e1 : Int) (w : World) (h1 : pack_Unpack.f k s = some (l1, t1, e1)) (hz : e1 ≠ 0) :
  Calls Try.prog 20 #[.string s] w fun e w' => e = .returned (.tuple #[.agg #[.int .i64 0, .int .i64 0, .slice none 0 0, .slice none 0 0], .int .i64 30]) ∧ Below w.heap.size w w' := by
 obtain ⟨hN, hE, hT⟩ := three w (.cells #[.int .i64 0, .int .i64 0, .slice none 0 0, .slice none 0 0] 27) (.cells #[.int .i64 0] 35) (.cells #[.string s] 65)
 have hB := ((((Below.refl w.heap.size w).alloc (Nat.le_refl _) (.cells #[.int .i64 0, .int .i64 0, .slice none 0 0, .slice none 0 0] 27)).alloc (by simp) (.cells #[.int .i64 0] 35)).alloc (by simp; omega) (.cells #[.string s] 65))
 have TK := Aside0.mk (take_any k s l1 t1 e1 (w.heap.size + 1 + 1) _ ((blk_cell hT 0).trans rfl) (blk_frozen hT 0) h1)
 have HN := Aside0.mk hN
 have HE := Aside0.mk hE
 have HB := Aside0.mk hB
 clear hN hE hT hB
 go_enter_defers Try.func20, Try.ntmps20
 go_wp2_with (go_at_call 32; refine TK.out.mono ?_; rintro e w1 (⟨hz', -⟩ | ⟨-, rfl, hb⟩); (exact absurd hz' hz); have HB1 := Aside0.mk hb; clear hb)
 refine leaves_cons (f := 31) (args := #[.pointer (some ⟨w.heap.size, 0, none⟩), .pointer (some ⟨w.heap.size + 1, 0, none⟩)]) (by simp) (by simp [go_sem]) ?_
 have g0 := (HB1.out.block w.heap.size (by simp; omega)).trans HN.out
 have g1 := (HB1.out.block (w.heap.size + 1) (by simp)).trans HE.out
 refine (caught_out w.heap.size (w.heap.size + 1) _ _ _ _ _ [] w.heap.size w w1 (Nat.le_refl _) (by omega) (HB.out.trans (HB1.out.mono (by simp; omega))) g0 g1 (by omega)).mono ?_
 rintro e u' w'' ⟨rfl, rfl, q0, q1, q2, q3, q4, hb9⟩
 simp [Leaves, settle, results, Try.results20, go_sem, q0, q1, q2, q3, q4, hb9]
theorem R_past {e base : Nat} {W : World} {ok : Nat → Prop} {v : Value} {xs : List Int} (h : Kd.R (Kd.int .i64) e W base ok v xs) {p : Addr} (hp : p.block < base) (u : Value) : Kd.R (Kd.int .i64) e (W.setCell p u) base ok v xs :=
 Kd.R_mono (Kd.R_far (Kd.R_bound h) (fun k hk => by have := hk.2.1; omega) u) (fun _ hk => hk.1)
theorem keep_far {W : World} {g i p j : Nat} {v u : Value} (h : W.cell? ⟨g, i, none⟩ = some v) (hne : g ≠ p) : (W.setCell ⟨p, j, none⟩ u).cell? ⟨g, i, none⟩ = some v :=
 (World.cell?_of_block (w := W) (Below.heap_setCell W ⟨p, j, none⟩ u g hne)).trans h
theorem keep4 {W : World} {g i p : Nat} {v a b c d : Value} (h : W.cell? ⟨g, i, none⟩ = some v) (hne : g ≠ p) : ((((W.setCell ⟨p, 0, none⟩ a).setCell ⟨p, 1, none⟩ b).setCell ⟨p, 2, none⟩ c).setCell ⟨p, 3, none⟩ d).cell? ⟨g, i, none⟩ = some v :=
 keep_far (keep_far (keep_far (keep_far h hne) hne) hne) hne
-- Four cells of one block.
theorem set4 {w : World} {p : Nat} {c0 c1 c2 c3 : Value} (a b c d : Value) (h0 : w.heap[p]? = some (.cells #[c0, c1, c2, c3] 27 (0, 0))) :
  ((((w.setCell ⟨p, 0, none⟩ a).setCell ⟨p, 1, none⟩ b).setCell ⟨p, 2, none⟩ c).setCell ⟨p, 3, none⟩ d).heap[p]? = some (.cells #[a, b, c, d] 27 (0, 0)) := by
 have a0 := blk_put h0 0 a rfl
 have a1 := blk_put a0 1 b rfl
 have a2 := blk_put a1 2 c rfl
 exact blk_put a2 3 d rfl
theorem set4_far {w : World} {p g t : Nat} {cs : Array Value} (a b c d : Value) (hpg : g ≠ p) (h0 : w.heap[g]? = some (.cells cs t (0, 0))) :
  ((((w.setCell ⟨p, 0, none⟩ a).setCell ⟨p, 1, none⟩ b).setCell ⟨p, 2, none⟩ c).setCell ⟨p, 3, none⟩ d).heap[g]? = some (.cells cs t (0, 0)) :=
 blk_far (blk_far (blk_far (blk_far h0 (p := ⟨p, 0, none⟩) hpg a) (p := ⟨p, 1, none⟩) hpg b) (p := ⟨p, 2, none⟩) hpg c) (p := ⟨p, 3, none⟩) hpg d
-- Behind a taking: the function's own three variables.
theorem step_take {w W W1 : World} {cN cE cT : Array Value} {tN tE tT : Nat} (u : Value) (hB : Below w.heap.size w W) (hs : w.heap.size + 1 + 1 < W.heap.size) (hN : W.heap[w.heap.size]? = some (.cells cN tN (0, 0))) (hE : W.heap[w.heap.size + 1]? = some (.cells cE tE (0, 0))) (hT : W.heap[w.heap.size + 1 + 1]? = some (.cells cT tT (0, 0))) (hb : Below W.heap.size W W1) :
  (W1.setCell ⟨w.heap.size + 1 + 1, 0, none⟩ u).heap[w.heap.size]? = some (.cells cN tN (0, 0)) ∧ (W1.setCell ⟨w.heap.size + 1 + 1, 0, none⟩ u).heap[w.heap.size + 1]? = some (.cells cE tE (0, 0)) ∧
  (W1.setCell ⟨w.heap.size + 1 + 1, 0, none⟩ u).heap[w.heap.size + 1 + 1]? = some (.cells (cT.setIfInBounds 0 u) tT (0, 0)) ∧ Below w.heap.size w (W1.setCell ⟨w.heap.size + 1 + 1, 0, none⟩ u) ∧ W.heap.size ≤ (W1.setCell ⟨w.heap.size + 1 + 1, 0, none⟩ u).heap.size := by
 refine ⟨blk_far ((hb.block _ (by omega)).trans hN) (by simp; omega) u, blk_far ((hb.block _ (by omega)).trans hE) (by simp) u, blk_set ((hb.block _ (by omega)).trans hT) 0 u, ((hB.trans (hb.mono hB.size))).setCell (by simp; omega) u, ?_⟩
 have := hb.size
 simpa using this
set_option maxHeartbeats 8000000 in
set_option maxRecDepth 100000 in
theorem read_fail2 (k : Nat) (s : ByteArray) (l1 : List Int) (t1 : ByteArray) (w : World) (h1 : pack_Unpack.f k s = some (l1, t1, 0)) (hl : l1.length ≠ 2) :
  Calls Try.prog 20 #[.string s] w fun e w' => e = .returned (.tuple #[.agg #[.int .i64 0, .int .i64 0, .slice none 0 0, .slice none 0 0], .int .i64 30]) ∧ Below w.heap.size w w' := by
 obtain ⟨hN, hE, hT⟩ := three w (.cells #[.int .i64 0, .int .i64 0, .slice none 0 0, .slice none 0 0] 27) (.cells #[.int .i64 0] 35) (.cells #[.string s] 65)
 have hB := ((((Below.refl w.heap.size w).alloc (Nat.le_refl _) (.cells #[.int .i64 0, .int .i64 0, .slice none 0 0, .slice none 0 0] 27)).alloc (by simp) (.cells #[.int .i64 0] 35)).alloc (by simp; omega) (.cells #[.string s] 65))
 have TK := Aside0.mk (take_any k s l1 t1 0 (w.heap.size + 1 + 1) _ ((blk_cell hT 0).trans rfl) (blk_frozen hT 0) h1)
 have ST := Aside0.mk (fun (W1 : World) (hb) => step_take (W1 := W1) (.string t1) hB (by simp) hN hE hT hb)
 have hl2 : ((l1.length : Int) != 2) = true := bne_iff_ne.mpr (by omega)
 clear hN hE hT hB
 go_enter_defers Try.func20, Try.ntmps20
 go_wp2_with (go_at_call 32; refine TK.out.mono ?_; rintro e w1 (⟨-, v, W1, rfl, hv, hb, rfl⟩ | ⟨hz', -⟩); rotate_left; (exact absurd rfl hz'); obtain ⟨A1, c1, rfl⟩ := Kd.R_slice hv; obtain ⟨gN, gE, gT, hBB, hsz⟩ := ST.out W1 hb; have HBB := Aside0.mk hBB; have z0 := (blk_cell gN 0).trans rfl; have z1 := (blk_cell gN 1).trans rfl; have z2 := (blk_cell gN 2).trans rfl; have z3 := (blk_cell gN 3).trans rfl; have z4 := (blk_cell gE 0).trans rfl; have y0 := blk_frozen gN 0; have y1 := blk_frozen gN 1; have y2 := blk_frozen gN 2; have y3 := blk_frozen gN 3; have y4 := blk_frozen gE 0; have GN := Aside0.mk gN; have GE := Aside0.mk gE; clear hv hb gN gE gT hBB hsz; generalize W1.setCell ⟨w.heap.size + 1 + 1, 0, none⟩ (.string t1) = w2 at *)
 refine leaves_cons (f := 31) (args := #[.pointer (some ⟨w.heap.size, 0, none⟩), .pointer (some ⟨w.heap.size + 1, 0, none⟩)]) (by simp) (by simp [go_sem]) ?_
 refine (caught_idle ⟨w.heap.size, 0, none⟩ ⟨w.heap.size + 1, 0, none⟩ _).mono ?_
 rintro e u' w'' ⟨rfl, rfl, hw⟩
 have f1 := blk_far (set4 (.int .i64 0) (.int .i64 0) (.slice none 0 0) (.slice none 0 0) GN.out) (p := ⟨w.heap.size + 1, 0, none⟩) (by simp) (.int .i64 30)
 have f2 := blk_put (set4_far (.int .i64 0) (.int .i64 0) (.slice none 0 0) (.slice none 0 0) (p := w.heap.size) (by omega) GE.out) 0 (.int .i64 30) rfl
 have hb9 := ((((HBB.out.setCell (p := ⟨w.heap.size, 0, none⟩) (Nat.le_refl _) (.int .i64 0)).setCell (p := ⟨w.heap.size, 1, none⟩) (Nat.le_refl _) (.int .i64 0)).setCell (p := ⟨w.heap.size, 2, none⟩) (Nat.le_refl _) (.slice none 0 0)).setCell (p := ⟨w.heap.size, 3, none⟩) (Nat.le_refl _) (.slice none 0 0)).setCell (p := ⟨w.heap.size + 1, 0, none⟩) (by simp) (.int .i64 30)
 rw [← hw] at f1 f2 hb9
 have q0 := (blk_cell f1 0).trans rfl
 have q1 := (blk_cell f1 1).trans rfl
 have q2 := (blk_cell f1 2).trans rfl
 have q3 := (blk_cell f1 3).trans rfl
 have q4 := (blk_cell f2 0).trans rfl
 clear hw f1 f2
 simp [Leaves, settle, results, Try.results20, go_sem, q0, q1, q2, q3, q4, hb9]

set_option maxHeartbeats 8000000 in
set_option maxRecDepth 100000 in
theorem read_fail3 (k : Nat) (s : ByteArray) (l1 : List Int) (t1 : ByteArray) (l2 : List Int) (t2 : ByteArray) (e2 : Int) (w : World) (h1 : pack_Unpack.f k s = some (l1, t1, 0)) (hl : l1.length = 2) (h2 : pack_Unpack.f k t1 = some (l2, t2, e2)) (hz : e2 ≠ 0) :
  Calls Try.prog 20 #[.string s] w fun e w' => e = .returned (.tuple #[.agg #[.int .i64 0, .int .i64 0, .slice none 0 0, .slice none 0 0], .int .i64 30]) ∧ Below w.heap.size w w' := by
 obtain ⟨hN, hE, hT⟩ := three w (.cells #[.int .i64 0, .int .i64 0, .slice none 0 0, .slice none 0 0] 27) (.cells #[.int .i64 0] 35) (.cells #[.string s] 65)
 have hB := ((((Below.refl w.heap.size w).alloc (Nat.le_refl _) (.cells #[.int .i64 0, .int .i64 0, .slice none 0 0, .slice none 0 0] 27)).alloc (by simp) (.cells #[.int .i64 0] 35)).alloc (by simp; omega) (.cells #[.string s] 65))
 have TK := Aside0.mk (take_any k s l1 t1 0 (w.heap.size + 1 + 1) _ ((blk_cell hT 0).trans rfl) (blk_frozen hT 0) h1)
 have ST := Aside0.mk (fun (W1 : World) (hb) => step_take (W1 := W1) (.string t1) hB (by simp) hN hE hT hb)
 have SM := Aside0.mk (fun (v : Value) (W : World) (b : Nat) (h : Kd.R (Kd.int .i64) 3 W b (fun _ => True) v l1) => (show ∃ g cap, v = .slice (some ⟨g, 0, none⟩) 2 cap ∧ b ≤ g ∧ 2 ≤ cap ∧ W.cell? ⟨g, 0, none⟩ = some (.int .i64 (l1.getD 0 0)) ∧ W.cell? ⟨g, 1, none⟩ = some (.int .i64 (l1.getD 1 0)) by
  obtain ⟨g, cap, rfl, hg, hc⟩ := X.R_some h (by omega)
  have c0 := (Kd.R_cell (0 : Int) h 0 (by omega) (by omega)).1
  have c1 := (Kd.R_cell (0 : Int) h 1 (by omega) (by omega)).1
  rw [hl] at hc ⊢
  exact ⟨g, cap, rfl, hg, hc, c0, c1⟩))
 have TK2 := Aside0.mk (fun (W : World) (hc : W.cell? ⟨w.heap.size + 1 + 1, 0, none⟩ = some (.string t1)) (hf : W.frozen? ⟨w.heap.size + 1 + 1, 0, none⟩ = false) => take_any k t1 l2 t2 e2 (w.heap.size + 1 + 1) W hc hf h2)
 have HZ := Aside0.mk hz
 clear hN hE hT hB h1 h2 hl hz
 go_enter_defers Try.func20, Try.ntmps20
 go_wp2_with (go_at_call 32; refine TK.out.mono ?_; rintro e w1 (⟨-, v, W1, rfl, hv, hb, rfl⟩ | ⟨hz', -⟩); rotate_left; (exact absurd rfl hz'); obtain ⟨g1, c1, rfl, hg1, hc1, hd0, hd1⟩ := SM.out v W1 _ hv; obtain ⟨gN, gE, gT, hBB, hsz⟩ := ST.out W1 hb; have HBB := Aside0.mk hBB; have z4 := (blk_cell gT 0).trans rfl; have y4 := blk_frozen gT 0; have GN := Aside0.mk gN; have GE := Aside0.mk gE; have hne : g1 ≠ w.heap.size + 1 + 1 := (by simp at hg1; omega); have z0 := keep_far (j := 0) (u := .string t1) hd0 hne; have z1 := keep_far (j := 0) (u := .string t1) hd1 hne; have hs2 : w.heap.size + 1 + 1 < (W1.setCell ⟨w.heap.size + 1 + 1, 0, none⟩ (.string t1)).heap.size := (by simp at hsz ⊢; omega); clear hv hb gN gE gT hBB hsz hd0 hd1 hg1; generalize W1.setCell ⟨w.heap.size + 1 + 1, 0, none⟩ (.string t1) = w2 at *)
 refine Code.wp_mono (Q := fun e a W => match e with
  | .panic c => c = [{ v := .iface 35 (.int .i64 30), recovered := false }] ∧ a.tmps.getD 2 undef = .pointer (some ⟨w.heap.size, 0, none⟩) ∧ a.tmps.getD 3 undef = .pointer (some ⟨w.heap.size + 1, 0, none⟩) ∧
    a.defers = [{ target := Target.fn (Fn.func 31) #[], args := #[.pointer (some ⟨w.heap.size, 0, none⟩), .pointer (some ⟨w.heap.size + 1, 0, none⟩)] }] ∧ Below w2.heap.size w2 W
  | _ => False) ?imp ?reg
 case imp =>
  intro e a W h
  cases e with
  | panic c =>
   obtain ⟨rfl, ht2, ht3, hd, hb⟩ := h
   obtain ⟨tm, df⟩ := a
   dsimp only at ht2 ht3 hd
   rw [Array.getD_eq_getD_getElem?] at ht2 ht3
   subst hd
   have g0 := (hb.block w.heap.size (by omega)).trans GN.out
   have g1 := (hb.block (w.heap.size + 1) (by omega)).trans GE.out
   change Leaves Try.prog Try.f20 tm _ _ _ W
   refine leaves_cons (f := 31) (args := #[.pointer (some ⟨w.heap.size, 0, none⟩), .pointer (some ⟨w.heap.size + 1, 0, none⟩)]) (by simp) (by simp [go_sem]) ?_
   refine (caught_out w.heap.size (w.heap.size + 1) _ _ _ _ _ [] w.heap.size w W (Nat.le_refl _) (by omega) (HBB.out.trans (hb.mono (by omega))) g0 g1 (by omega)).mono ?_
   rintro e u' w'' ⟨rfl, rfl, q0, q1, q2, q3, q4, hb9⟩
   simp [Leaves, settle, results, Try.results20, go_sem, q0, q1, q2, q3, q4, hb9, ht2, ht3]
  | _ => exact h.elim
 case reg =>
 refine wp_region_held_drew (S := fun W => W.cell? ⟨g1, 0, none⟩ = some (.int .i64 (l1.getD 0 0)) ∧ W.cell? ⟨g1, 1, none⟩ = some (.int .i64 (l1.getD 1 0)) ∧ W.cell? ⟨w.heap.size + 1 + 1, 0, none⟩ = some (.string t1) ∧ W.frozen? ⟨w.heap.size + 1 + 1, 0, none⟩ = false ∧ Below w2.heap.size w2 W) (by kernel_rfl) ⟨z0, z1, z4, y4, (Below.refl _ _).drew⟩ (fun hS => ?_)
 refine wpAnyH_take (i := 0) (v := .slice (some ⟨g1, 0, none⟩) 2 c1) rfl (by kernel_rfl) (by kernel_rfl) (by kernel_rfl) (fun c a W h => by simpa [Act.put] using h) (Or.inl ⟨by rfl, by (intro W hSw; (try dsimp only at hSw); obtain ⟨x0, x1, x2, x3, -⟩ := hSw; go_simp)⟩) hS ?_
 (try simp only [Act.put, List.setIfInBounds_toArray, List.set_cons_zero, List.set_cons_succ])
 refine wpAnyH_take (i := 1) (v := .pointer (some ⟨g1, 0, none⟩)) rfl (by kernel_rfl) (by kernel_rfl) (by kernel_rfl) (fun c a W h => by simpa [Act.put] using h) (Or.inl ⟨by rfl, by (intro W hSw; (try dsimp only at hSw); obtain ⟨x0, x1, x2, x3, -⟩ := hSw; go_simp)⟩) hS ?_
 (try simp only [Act.put, List.setIfInBounds_toArray, List.set_cons_zero, List.set_cons_succ])
 refine wpAnyH_take (i := 2) (v := .int .i64 (l1.getD 0 0)) rfl (by kernel_rfl) (by kernel_rfl) (by kernel_rfl) (fun c a W h => by simpa [Act.put] using h) (Or.inl ⟨by rfl, by (intro W hSw; (try dsimp only at hSw); obtain ⟨x0, x1, x2, x3, -⟩ := hSw; go_simp)⟩) hS ?_
 (try simp only [Act.put, List.setIfInBounds_toArray, List.set_cons_zero, List.set_cons_succ])
 refine wpAnyH_take (i := 3) (v := .slice (some ⟨g1, 0, none⟩) 2 c1) rfl (by kernel_rfl) (by kernel_rfl) (by kernel_rfl) (fun c a W h => by simpa [Act.put] using h) (Or.inl ⟨by rfl, by (intro W hSw; (try dsimp only at hSw); obtain ⟨x0, x1, x2, x3, -⟩ := hSw; go_simp)⟩) hS ?_
 (try simp only [Act.put, List.setIfInBounds_toArray, List.set_cons_zero, List.set_cons_succ])
 refine wpAnyH_take (i := 4) (v := .pointer (some ⟨g1, 1, none⟩)) rfl (by kernel_rfl) (by kernel_rfl) (by kernel_rfl) (fun c a W h => by simpa [Act.put] using h) (Or.inl ⟨by rfl, by (intro W hSw; (try dsimp only at hSw); obtain ⟨x0, x1, x2, x3, -⟩ := hSw; go_simp)⟩) hS ?_
 (try simp only [Act.put, List.setIfInBounds_toArray, List.set_cons_zero, List.set_cons_succ])
 refine wpAnyH_take (i := 5) (v := .int .i64 (l1.getD 1 0)) rfl (by kernel_rfl) (by kernel_rfl) (by kernel_rfl) (fun c a W h => by simpa [Act.put] using h) (Or.inl ⟨by rfl, by (intro W hSw; (try dsimp only at hSw); obtain ⟨x0, x1, x2, x3, -⟩ := hSw; go_simp)⟩) hS ?_
 (try simp only [Act.put, List.setIfInBounds_toArray, List.set_cons_zero, List.set_cons_succ])
 refine wpAnyH_take (i := 6) (v := .pointer (some ⟨w.heap.size + 1 + 1, 0, none⟩)) rfl (by kernel_rfl) (by kernel_rfl) (by kernel_rfl) (fun c a W h => by simpa [Act.put] using h) (Or.inl ⟨by rfl, by (intro W hSw; (try dsimp only at hSw); obtain ⟨x0, x1, x2, x3, -⟩ := hSw; go_simp)⟩) hS ?_
 (try simp only [Act.put, List.setIfInBounds_toArray, List.set_cons_zero, List.set_cons_succ])
 refine wpAnyH_ready (rs := [7]) (by kernel_rfl) (by simp) ?_
 refine AllReadyH.cons rfl (fun K hK => ?_) AllReadyH.nil
 go_simp
 refine (TK2.out w2.drew z4 y4).mono ?_
 rintro e w3 (⟨hz', -⟩ | ⟨-, rfl, hb⟩)
 ·
  exact absurd hz' HZ.out
 dsimp only
 exact ⟨rfl, ((Below.refl w2.heap.size w2).drew).trans hb⟩
set_option maxHeartbeats 8000000 in
set_option maxRecDepth 100000 in
theorem read_fail4 (k : Nat) (s : ByteArray) (l1 : List Int) (t1 : ByteArray) (l2 : List Int) (t2 : ByteArray) (l3 : List Int) (t3 : ByteArray) (e3 : Int) (w : World) (h1 : pack_Unpack.f k s = some (l1, t1, 0)) (hl : l1.length = 2) (h2 : pack_Unpack.f k t1 = some (l2, t2, 0)) (h3 : pack_Unpack.f k t2 = some (l3, t3, e3)) (hz : e3 ≠ 0) :
  Calls Try.prog 20 #[.string s] w fun e w' => e = .returned (.tuple #[.agg #[.int .i64 0, .int .i64 0, .slice none 0 0, .slice none 0 0], .int .i64 30]) ∧ Below w.heap.size w w' := by
 obtain ⟨hN, hE, hT⟩ := three w (.cells #[.int .i64 0, .int .i64 0, .slice none 0 0, .slice none 0 0] 27) (.cells #[.int .i64 0] 35) (.cells #[.string s] 65)
 have hB := ((((Below.refl w.heap.size w).alloc (Nat.le_refl _) (.cells #[.int .i64 0, .int .i64 0, .slice none 0 0, .slice none 0 0] 27)).alloc (by simp) (.cells #[.int .i64 0] 35)).alloc (by simp; omega) (.cells #[.string s] 65))
 have TK := Aside0.mk (take_any k s l1 t1 0 (w.heap.size + 1 + 1) _ ((blk_cell hT 0).trans rfl) (blk_frozen hT 0) h1)
 have ST := Aside0.mk (fun (W1 : World) (hb) => step_take (W1 := W1) (.string t1) hB (by simp) hN hE hT hb)
 have SM := Aside0.mk (fun (v : Value) (W : World) (b : Nat) (h : Kd.R (Kd.int .i64) 3 W b (fun _ => True) v l1) => (show ∃ g cap, v = .slice (some ⟨g, 0, none⟩) 2 cap ∧ b ≤ g ∧ 2 ≤ cap ∧ W.cell? ⟨g, 0, none⟩ = some (.int .i64 (l1.getD 0 0)) ∧ W.cell? ⟨g, 1, none⟩ = some (.int .i64 (l1.getD 1 0)) by
  obtain ⟨g, cap, rfl, hg, hc⟩ := X.R_some h (by omega)
  have c0 := (Kd.R_cell (0 : Int) h 0 (by omega) (by omega)).1
  have c1 := (Kd.R_cell (0 : Int) h 1 (by omega) (by omega)).1
  rw [hl] at hc ⊢
  exact ⟨g, cap, rfl, hg, hc, c0, c1⟩))
 have TK2 := Aside0.mk (fun (W : World) (hc : W.cell? ⟨w.heap.size + 1 + 1, 0, none⟩ = some (.string t1)) (hf : W.frozen? ⟨w.heap.size + 1 + 1, 0, none⟩ = false) => take_any k t1 l2 t2 0 (w.heap.size + 1 + 1) W hc hf h2)
 have TK3 := Aside0.mk (fun (W : World) (hc : W.cell? ⟨w.heap.size + 1 + 1, 0, none⟩ = some (.string t2)) (hf : W.frozen? ⟨w.heap.size + 1 + 1, 0, none⟩ = false) => take_any k t2 l3 t3 e3 (w.heap.size + 1 + 1) W hc hf h3)
 have HZ := Aside0.mk hz
 clear hN hE hT hB h1 h2 h3 hl hz
 go_enter_defers Try.func20, Try.ntmps20
 go_wp2_with (go_at_call 32; refine TK.out.mono ?_; rintro e w1 (⟨-, v, W1, rfl, hv, hb, rfl⟩ | ⟨hz', -⟩); rotate_left; (exact absurd rfl hz'); obtain ⟨g1, c1, rfl, hg1, hc1, hd0, hd1⟩ := SM.out v W1 _ hv; obtain ⟨gN, gE, gT, hBB, hsz⟩ := ST.out W1 hb; have HBB := Aside0.mk hBB; have z4 := (blk_cell gT 0).trans rfl; have y4 := blk_frozen gT 0; have GN := Aside0.mk gN; have GE := Aside0.mk gE; have GT := Aside0.mk gT; have hne : g1 ≠ w.heap.size + 1 + 1 := (by simp at hg1; omega); have hne2 : g1 ≠ w.heap.size := (by simp at hg1; omega); have z0 := keep_far (j := 0) (u := .string t1) hd0 hne; have z1 := keep_far (j := 0) (u := .string t1) hd1 hne; have hs2 : w.heap.size + 1 + 1 < (W1.setCell ⟨w.heap.size + 1 + 1, 0, none⟩ (.string t1)).heap.size := (by simp at hsz ⊢; omega); clear hv hb gN gE gT hBB hsz hd0 hd1 hg1; generalize W1.setCell ⟨w.heap.size + 1 + 1, 0, none⟩ (.string t1) = w2 at *)
 obtain ⟨va, hva⟩ : ∃ x, l1.getD 0 0 = x := ⟨_, rfl⟩
 obtain ⟨vb, hvb⟩ : ∃ x, l1.getD 1 0 = x := ⟨_, rfl⟩
 rw [hva] at z0
 rw [hvb] at z1
 clear hva hvb SM ST TK
 go_region_held3 (fun W => W.cell? ⟨g1, 0, none⟩ = some (.int .i64 va) ∧ W.cell? ⟨g1, 1, none⟩ = some (.int .i64 vb))
  (first | exact ⟨z0, z1⟩ | exact ⟨x0, x1⟩ | exact ⟨keep4 x0 hne2, keep4 x1 hne2⟩)
  (first | (go_at_call 32; refine (TK2.out w2.drew z4 y4).mono ?_; rintro e w3 (⟨-, v2, W2, rfl, hv2, hb2, rfl⟩ | ⟨hz', -⟩); rotate_left; (exact absurd rfl hz'); obtain ⟨A2, c2, rfl⟩ := Kd.R_slice hv2; obtain ⟨gN, gE, gT, hBB2, hsz2⟩ := step_take (.string t2) HBB.out hs2 GN.out GE.out GT.out (((Below.refl w2.heap.size w2).drew).trans hb2); have HBB2 := Aside0.mk hBB2; have x0 := keep_far (j := 0) (u := .string t2) (cell_keep (W := w2.drew) hb2 z0) hne; have x1 := keep_far (j := 0) (u := .string t2) (cell_keep (W := w2.drew) hb2 z1) hne; have x4 := (blk_cell gT 0).trans rfl; have x5 := blk_frozen gT 0; have GN2 := Aside0.mk gN; have GE2 := Aside0.mk gE; have GT2 := Aside0.mk gT; have HV2 := Aside0.mk (R_past hv2 (p := ⟨w.heap.size + 1 + 1, 0, none⟩) hs2 (.string t2)); have x6 := (blk_cell gN 0).trans rfl; have x7 := (blk_cell gN 1).trans rfl; have x8 := (blk_cell gN 2).trans rfl; have x9 := (blk_cell gN 3).trans rfl; have y6 := blk_frozen gN 0; have y7 := blk_frozen gN 1; have y8 := blk_frozen gN 2; have y9 := blk_frozen gN 3; clear hv2 hb2 gN gE gT hBB2; generalize W2.setCell ⟨w.heap.size + 1 + 1, 0, none⟩ (.string t2) = w4 at *))
 have mT := set4_far (.int .i64 va) (.int .i64 vb) (.slice A2 l2.length c2) (.slice none 0 0) (p := w.heap.size) (by omega) GT2.out
 have mN := set4 (.int .i64 va) (.int .i64 vb) (.slice A2 l2.length c2) (.slice none 0 0) GN2.out
 have mE := set4_far (.int .i64 va) (.int .i64 vb) (.slice A2 l2.length c2) (.slice none 0 0) (p := w.heap.size) (by omega) GE2.out
 have mB := (((HBB2.out.setCell (p := ⟨w.heap.size, 0, none⟩) (Nat.le_refl _) (.int .i64 va)).setCell (p := ⟨w.heap.size, 1, none⟩) (Nat.le_refl _) (.int .i64 vb)).setCell (p := ⟨w.heap.size, 2, none⟩) (Nat.le_refl _) (.slice A2 l2.length c2)).setCell (p := ⟨w.heap.size, 3, none⟩) (Nat.le_refl _) (.slice none 0 0)
 clear x0 x1 x4 x5 x6 x7 x8 x9 y6 y7 y8 y9 z0 z1 z4 y4
 generalize (((w4.setCell ⟨w.heap.size, 0, none⟩ (.int .i64 va)).setCell ⟨w.heap.size, 1, none⟩ (.int .i64 vb)).setCell ⟨w.heap.size, 2, none⟩ (.slice A2 l2.length c2)).setCell ⟨w.heap.size, 3, none⟩ (.slice none 0 0) = w5 at *
 have HS5 := Aside0.mk (blk_lt mT)
 have MN := Aside0.mk mN
 have ME := Aside0.mk mE
 have MB := Aside0.mk mB
 have TK := Aside0.mk (TK3.out w5 ((blk_cell mT 0).trans rfl) (blk_frozen mT 0))
 clear mN mE mB mT TK2 TK3 GN GE GT GN2 GE2 GT2
 go_wp2_with (go_at_call 32; refine TK.out.mono ?_; rintro e w6 (⟨hz', -⟩ | ⟨-, rfl, hb⟩); (exact absurd hz' HZ.out); have HB6 := Aside0.mk hb; clear hb)
 refine leaves_cons (f := 31) (args := #[.pointer (some ⟨w.heap.size, 0, none⟩), .pointer (some ⟨w.heap.size + 1, 0, none⟩)]) (by simp) (by simp [go_sem]) ?_
 have n0 := HS5.out
 have g0 := (HB6.out.block w.heap.size (by omega)).trans MN.out
 have g6 := (HB6.out.block (w.heap.size + 1) (by omega)).trans ME.out
 refine (caught_out w.heap.size (w.heap.size + 1) _ _ _ _ _ [] w.heap.size w w6 (Nat.le_refl _) (by omega) (MB.out.trans (HB6.out.mono (by omega))) g0 g6 (by omega)).mono ?_
 rintro e u' w'' ⟨rfl, rfl, q0, q1, q2, q3, q4, hb9⟩
 simp [Leaves, settle, results, Try.results20, go_sem, q0, q1, q2, q3, q4, hb9]
set_option maxHeartbeats 8000000 in
set_option maxRecDepth 100000 in
theorem read_ok (k : Nat) (s : ByteArray) (l1 : List Int) (t1 : ByteArray) (l2 : List Int) (t2 : ByteArray) (l3 : List Int) (t3 : ByteArray) (m : List Int) (w : World) (h1 : pack_Unpack.f k s = some (l1, t1, 0)) (hl : l1.length = 2) (h2 : pack_Unpack.f k t1 = some (l2, t2, 0)) (h3 : pack_Unpack.f k t2 = some (l3, t3, 0)) (hm : tag_moved.f l3 (-1) = some m) :
  Calls Try.prog 20 #[.string s] w fun e w' => ∃ v2_ v3_ : Value, e = .returned (.tuple #[.agg #[.int .i64 (l1.getD 0 0), .int .i64 (l1.getD 1 0), v2_, v3_], .int .i64 0]) ∧ Kd.R (Kd.int .i64) 3 w' w.heap.size (fun k_ => some k_ ≠ v3_.ownBlock) v2_ l2 ∧ Kd.R (Kd.int .i64) 3 w' w.heap.size (fun k_ => some k_ ≠ v2_.ownBlock) v3_ m ∧ Below w.heap.size w w' := by
 obtain ⟨hN, hE, hT⟩ := three w (.cells #[.int .i64 0, .int .i64 0, .slice none 0 0, .slice none 0 0] 27) (.cells #[.int .i64 0] 35) (.cells #[.string s] 65)
 have hB := ((((Below.refl w.heap.size w).alloc (Nat.le_refl _) (.cells #[.int .i64 0, .int .i64 0, .slice none 0 0, .slice none 0 0] 27)).alloc (by simp) (.cells #[.int .i64 0] 35)).alloc (by simp; omega) (.cells #[.string s] 65))
 have TK := Aside0.mk (take_any k s l1 t1 0 (w.heap.size + 1 + 1) _ ((blk_cell hT 0).trans rfl) (blk_frozen hT 0) h1)
 have ST := Aside0.mk (fun (W1 : World) (hb) => step_take (W1 := W1) (.string t1) hB (by simp) hN hE hT hb)
 have SM := Aside0.mk (fun (v : Value) (W : World) (b : Nat) (h : Kd.R (Kd.int .i64) 3 W b (fun _ => True) v l1) => (show ∃ g cap, v = .slice (some ⟨g, 0, none⟩) 2 cap ∧ b ≤ g ∧ 2 ≤ cap ∧ W.cell? ⟨g, 0, none⟩ = some (.int .i64 (l1.getD 0 0)) ∧ W.cell? ⟨g, 1, none⟩ = some (.int .i64 (l1.getD 1 0)) by
  obtain ⟨g, cap, rfl, hg, hc⟩ := X.R_some h (by omega)
  have c0 := (Kd.R_cell (0 : Int) h 0 (by omega) (by omega)).1
  have c1 := (Kd.R_cell (0 : Int) h 1 (by omega) (by omega)).1
  rw [hl] at hc ⊢
  exact ⟨g, cap, rfl, hg, hc, c0, c1⟩))
 obtain ⟨va, hva⟩ : ∃ x, l1.getD 0 0 = x := ⟨_, rfl⟩
 obtain ⟨vb, hvb⟩ : ∃ x, l1.getD 1 0 = x := ⟨_, rfl⟩
 rw [hva, hvb] at SM
 rw [hva, hvb]
 clear hva hvb
 have TK2 := Aside0.mk (fun (W : World) (hc : W.cell? ⟨w.heap.size + 1 + 1, 0, none⟩ = some (.string t1)) (hf : W.frozen? ⟨w.heap.size + 1 + 1, 0, none⟩ = false) => take_any k t1 l2 t2 0 (w.heap.size + 1 + 1) W hc hf h2)
 have TK3 := Aside0.mk (fun (W : World) (hc : W.cell? ⟨w.heap.size + 1 + 1, 0, none⟩ = some (.string t2)) (hf : W.frozen? ⟨w.heap.size + 1 + 1, 0, none⟩ = false) => take_any k t2 l3 t3 0 (w.heap.size + 1 + 1) W hc hf h3)
 have MV := Aside0.mk (fun (A0 : Option Addr) (c0 : Nat) (W : World) (hr : Kd.C (Kd.int .i64) W A0 l3.length l3) (hc : l3.length ≤ c0) => tag_moved.calls A0 c0 l3 (-1) m W hr hc hm)
 clear hN hE hT hB h1 h2 h3 hl hm
 go_enter_defers Try.func20, Try.ntmps20
 go_wp2_with (go_at_call 32; refine TK.out.mono ?_; rintro e w1 (⟨-, v, W1, rfl, hv, hb, rfl⟩ | ⟨hz', -⟩); rotate_left; (exact absurd rfl hz'); obtain ⟨g1, c1, rfl, hg1, hc1, hd0, hd1⟩ := SM.out v W1 _ hv; obtain ⟨gN, gE, gT, hBB, hsz⟩ := ST.out W1 hb; have HBB := Aside0.mk hBB; have z4 := (blk_cell gT 0).trans rfl; have y4 := blk_frozen gT 0; have GN := Aside0.mk gN; have GE := Aside0.mk gE; have GT := Aside0.mk gT; have hne : g1 ≠ w.heap.size + 1 + 1 := (by simp at hg1; omega); have hne2 : g1 ≠ w.heap.size := (by simp at hg1; omega); have z0 := keep_far (j := 0) (u := .string t1) hd0 hne; have z1 := keep_far (j := 0) (u := .string t1) hd1 hne; have hs2 : w.heap.size + 1 + 1 < (W1.setCell ⟨w.heap.size + 1 + 1, 0, none⟩ (.string t1)).heap.size := (by simp at hsz ⊢; omega); clear hv hb gN gE gT hBB hsz hd0 hd1 hg1; generalize W1.setCell ⟨w.heap.size + 1 + 1, 0, none⟩ (.string t1) = w2 at *)
 clear SM ST TK
 go_region_held3 (fun W => W.cell? ⟨g1, 0, none⟩ = some (.int .i64 va) ∧ W.cell? ⟨g1, 1, none⟩ = some (.int .i64 vb))
  (first | exact ⟨z0, z1⟩ | exact ⟨x0, x1⟩ | exact ⟨keep4 x0 hne2, keep4 x1 hne2⟩)
  (first | (go_at_call 32; refine (TK2.out w2.drew z4 y4).mono ?_; rintro e w3 (⟨-, v2, W2, rfl, hv2, hb2, rfl⟩ | ⟨hz', -⟩); rotate_left; (exact absurd rfl hz'); obtain ⟨A2, c2, rfl⟩ := Kd.R_slice hv2; obtain ⟨gN, gE, gT, hBB2, hsz2⟩ := step_take (.string t2) HBB.out hs2 GN.out GE.out GT.out (((Below.refl w2.heap.size w2).drew).trans hb2); have HBB2 := Aside0.mk hBB2; have x0 := keep_far (j := 0) (u := .string t2) (cell_keep (W := w2.drew) hb2 z0) hne; have x1 := keep_far (j := 0) (u := .string t2) (cell_keep (W := w2.drew) hb2 z1) hne; have x4 := (blk_cell gT 0).trans rfl; have x5 := blk_frozen gT 0; have GN2 := Aside0.mk gN; have GE2 := Aside0.mk gE; have GT2 := Aside0.mk gT; have HV2 := Aside0.mk (R_past hv2 (p := ⟨w.heap.size + 1 + 1, 0, none⟩) hs2 (.string t2)); have x6 := (blk_cell gN 0).trans rfl; have x7 := (blk_cell gN 1).trans rfl; have x8 := (blk_cell gN 2).trans rfl; have x9 := (blk_cell gN 3).trans rfl; have y6 := blk_frozen gN 0; have y7 := blk_frozen gN 1; have y8 := blk_frozen gN 2; have y9 := blk_frozen gN 3; clear hv2 hb2 gN gE gT hBB2; generalize W2.setCell ⟨w.heap.size + 1 + 1, 0, none⟩ (.string t2) = w4 at *))
 have mT := set4_far (.int .i64 va) (.int .i64 vb) (.slice A2 l2.length c2) (.slice none 0 0) (p := w.heap.size) (by omega) GT2.out
 have mN := set4 (.int .i64 va) (.int .i64 vb) (.slice A2 l2.length c2) (.slice none 0 0) GN2.out
 have mE := set4_far (.int .i64 va) (.int .i64 vb) (.slice A2 l2.length c2) (.slice none 0 0) (p := w.heap.size) (by omega) GE2.out
 have mB := (((HBB2.out.setCell (p := ⟨w.heap.size, 0, none⟩) (Nat.le_refl _) (.int .i64 va)).setCell (p := ⟨w.heap.size, 1, none⟩) (Nat.le_refl _) (.int .i64 vb)).setCell (p := ⟨w.heap.size, 2, none⟩) (Nat.le_refl _) (.slice A2 l2.length c2)).setCell (p := ⟨w.heap.size, 3, none⟩) (Nat.le_refl _) (.slice none 0 0)
 have mV := R_past (R_past (R_past (R_past HV2.out (p := ⟨w.heap.size, 0, none⟩) (show w.heap.size < w2.drew.heap.size by simp; omega) (.int .i64 va)) (p := ⟨w.heap.size, 1, none⟩) (show w.heap.size < w2.drew.heap.size by simp; omega) (.int .i64 vb)) (p := ⟨w.heap.size, 2, none⟩) (show w.heap.size < w2.drew.heap.size by simp; omega) (.slice A2 l2.length c2)) (p := ⟨w.heap.size, 3, none⟩) (show w.heap.size < w2.drew.heap.size by simp; omega) (.slice none 0 0)
 clear HV2
 clear x0 x1 x4 x5 x6 x7 x8 x9 y6 y7 y8 y9 z0 z1 z4 y4
 generalize (((w4.setCell ⟨w.heap.size, 0, none⟩ (.int .i64 va)).setCell ⟨w.heap.size, 1, none⟩ (.int .i64 vb)).setCell ⟨w.heap.size, 2, none⟩ (.slice A2 l2.length c2)).setCell ⟨w.heap.size, 3, none⟩ (.slice none 0 0) = w5 at *
 have HS5 := Aside0.mk (blk_lt mT)
 have MV5 := Aside0.mk mV
 clear mV
 have MN := Aside0.mk mN
 have ME := Aside0.mk mE
 have MB := Aside0.mk mB
 have TK := Aside0.mk (TK3.out w5 ((blk_cell mT 0).trans rfl) (blk_frozen mT 0))
 have MT := Aside0.mk mT
 clear mN mE mB mT TK2 TK3 GN GE GT GN2 GE2 GT2
 have n5 := HS5.out
 go_wp2_with (first
  | (go_at_call 32; refine TK.out.mono ?_; rintro e w6 (⟨-, v3, W3, rfl, hv3, hb3, rfl⟩ | ⟨hz', -⟩); rotate_left; (exact absurd rfl hz'); obtain ⟨A3, c3, rfl⟩ := Kd.R_slice hv3; obtain ⟨gN, gE, gT, hBB3, hsz3⟩ := step_take (.string t3) MB.out HS5.out MN.out ME.out MT.out hb3; have HBB3 := Aside0.mk hBB3; have GN3 := Aside0.mk gN; have GE3 := Aside0.mk gE; have HSW := Aside0.mk hsz3; have HV3 := Aside0.mk (R_past hv3 (p := ⟨w.heap.size + 1 + 1, 0, none⟩) HS5.out (.string t3)); have HV2 := Aside0.mk (R_past (Kd.R_below MV5.out hb3) (p := ⟨w.heap.size + 1 + 1, 0, none⟩) (show w.heap.size + 1 + 1 < w2.drew.heap.size by simp; omega) (.string t3)); clear hv3 hb3 gN gE gT hBB3; generalize W3.setCell ⟨w.heap.size + 1 + 1, 0, none⟩ (.string t3) = w7 at *)
  | (go_at_call 23; refine (MV.out A3 c3 w7 (Kd.R_reads' HV3.out).2.2 (Kd.R_reads' HV3.out).2.1).mono ?_; rintro e w8 ⟨v4, rfl, hv4, hb4⟩; obtain ⟨A4, c4, rfl⟩ := Kd.R_slice hv4; have gN := (hb4.block w.heap.size (by omega)).trans GN3.out; have gE := (hb4.block (w.heap.size + 1) (by omega)).trans GE3.out; have HV4 := Aside0.mk hv4; have HB4 := Aside0.mk hb4; have GN4 := Aside0.mk gN; have GE4 := Aside0.mk gE; have x6 := (blk_cell gN 0).trans rfl; have x7 := (blk_cell gN 1).trans rfl; have x8 := (blk_cell gN 2).trans rfl; have x9 := (blk_cell gN 3).trans rfl; have y6 := blk_frozen gN 0; have y7 := blk_frozen gN 1; have y8 := blk_frozen gN 2; have y9 := blk_frozen gN 3; have x5 := (blk_cell gE 0).trans rfl; have y5 := blk_frozen gE 0; clear hv4 hb4 gN gE))
 have n7 := HSW.out
 have n2 : w.heap.size + 1 < w2.drew.heap.size := by simp; omega
 have f1 := blk_far (set4 (.int .i64 va) (.int .i64 vb) (.slice A2 l2.length c2) (.slice A4 m.length c4) (blk_put GN4.out 3 (.slice A4 m.length c4) rfl)) (p := ⟨w.heap.size + 1, 0, none⟩) (by simp) (.int .i64 0)
 have f2 := blk_put (set4_far (.int .i64 va) (.int .i64 vb) (.slice A2 l2.length c2) (.slice A4 m.length c4) (p := w.heap.size) (by omega) (blk_far GE4.out (p := ⟨w.heap.size, 3, none⟩) (by simp) (.slice A4 m.length c4))) 0 (.int .i64 0) rfl
 have RV2 := R_past (R_past (R_past (R_past (R_past (R_past (Kd.R_elder' (v := .slice A4 m.length c4) HV2.out (Kd.R_base HV4.out) HB4.out) (p := ⟨w.heap.size, 3, none⟩) (show w.heap.size < w2.drew.heap.size by omega) (.slice A4 m.length c4)) (p := ⟨w.heap.size, 0, none⟩) (show w.heap.size < w2.drew.heap.size by omega) (.int .i64 va)) (p := ⟨w.heap.size, 1, none⟩) (show w.heap.size < w2.drew.heap.size by omega) (.int .i64 vb)) (p := ⟨w.heap.size, 2, none⟩) (show w.heap.size < w2.drew.heap.size by omega) (.slice A2 l2.length c2)) (p := ⟨w.heap.size, 3, none⟩) (show w.heap.size < w2.drew.heap.size by omega) (.slice A4 m.length c4)) (p := ⟨w.heap.size + 1, 0, none⟩) n2 (.int .i64 0)
 have RV4 := R_past (R_past (R_past (R_past (R_past (R_past (Kd.R_new' (u := .slice A2 l2.length c2) HV4.out (Kd.R_lt HV2.out)) (p := ⟨w.heap.size, 3, none⟩) (show w.heap.size < w7.heap.size by omega) (.slice A4 m.length c4)) (p := ⟨w.heap.size, 0, none⟩) (show w.heap.size < w7.heap.size by omega) (.int .i64 va)) (p := ⟨w.heap.size, 1, none⟩) (show w.heap.size < w7.heap.size by omega) (.int .i64 vb)) (p := ⟨w.heap.size, 2, none⟩) (show w.heap.size < w7.heap.size by omega) (.slice A2 l2.length c2)) (p := ⟨w.heap.size, 3, none⟩) (show w.heap.size < w7.heap.size by omega) (.slice A4 m.length c4)) (p := ⟨w.heap.size + 1, 0, none⟩) (show w.heap.size + 1 < w7.heap.size by omega) (.int .i64 0)
 have hb9 := (((((((HBB3.out.trans (HB4.out.mono (by omega))).setCell (p := ⟨w.heap.size, 3, none⟩) (Nat.le_refl _) (.slice A4 m.length c4)).setCell (p := ⟨w.heap.size, 0, none⟩) (Nat.le_refl _) (.int .i64 va)).setCell (p := ⟨w.heap.size, 1, none⟩) (Nat.le_refl _) (.int .i64 vb)).setCell (p := ⟨w.heap.size, 2, none⟩) (Nat.le_refl _) (.slice A2 l2.length c2)).setCell (p := ⟨w.heap.size, 3, none⟩) (Nat.le_refl _) (.slice A4 m.length c4)).setCell (p := ⟨w.heap.size + 1, 0, none⟩) (show w.heap.size ≤ w.heap.size + 1 by omega) (.int .i64 0))
 refine leaves_cons (f := 31) (args := #[.pointer (some ⟨w.heap.size, 0, none⟩), .pointer (some ⟨w.heap.size + 1, 0, none⟩)]) (by simp) (by simp [go_sem]) ?_
 refine (caught_idle ⟨w.heap.size, 0, none⟩ ⟨w.heap.size + 1, 0, none⟩ _).mono ?_
 rintro e u' w'' ⟨rfl, rfl, hw⟩
 rw [← hw] at f1 f2 RV2 RV4 hb9
 have q0 := (blk_cell f1 0).trans rfl
 have q1 := (blk_cell f1 1).trans rfl
 have q2 := (blk_cell f1 2).trans rfl
 have q3 := (blk_cell f1 3).trans rfl
 have q4 := (blk_cell f2 0).trans rfl
 clear hw f1 f2
 exact ⟨.tuple #[.agg #[.int .i64 va, .int .i64 vb, .slice A2 l2.length c2, .slice A4 m.length c4], .int .i64 0], by simp [results, Try.results20, go_sem, q0, q1, q2, q3, q4], _, _, rfl, Kd.R_mono (Kd.R_lower RV2 (by simp; omega)) (fun _ hk => hk.2), Kd.R_mono (Kd.R_lower RV4 (by omega)) (fun _ hk => hk.2), hb9⟩

theorem tag_read.calls (k : Nat) (a0 : ByteArray) (r1 : Int) (r2 : Int) (r3 : List Int) (r4 : List Int) (r5 : Int) (w : World) (h : tag_read.f k a0 = some (r1, r2, r3, r4, r5)) :
  Calls Try.prog 20 #[.string a0] w fun e w' => ∃ v2_ v3_ : Value, e = .returned (.tuple #[.agg #[.int .i64 r1, .int .i64 r2, v2_, v3_], .int .i64 r5]) ∧ Kd.R (Kd.int .i64) 3 w' w.heap.size (fun k_ => some k_ ≠ (v3_ : Value).ownBlock) v2_ r3 ∧ Kd.R (Kd.int .i64) 3 w' w.heap.size (fun k_ => some k_ ≠ (v2_ : Value).ownBlock) v3_ r4 ∧ Below w.heap.size w w' := by
 unfold tag_read.f at h
 obtain ⟨⟨l1, t1, e1⟩, h1, h⟩ := Option.bind_eq_some_iff.mp h
 dsimp only at h
 by_cases hz1 : e1 = 0
 case neg =>
  rw [if_neg hz1] at h
  cases h
  refine (read_fail1 k a0 l1 t1 e1 w h1 hz1).mono ?_
  rintro e w' ⟨rfl, hb⟩
  exact ⟨_, _, rfl, Kd.R_nil _ _ _ _ _, Kd.R_nil _ _ _ _ _, hb⟩
 rw [if_pos hz1] at h
 subst hz1
 by_cases hl : l1.length = 2
 case neg =>
  rw [if_neg hl] at h
  cases h
  refine (read_fail2 k a0 l1 t1 w h1 hl).mono ?_
  rintro e w' ⟨rfl, hb⟩
  exact ⟨_, _, rfl, Kd.R_nil _ _ _ _ _, Kd.R_nil _ _ _ _ _, hb⟩
 rw [if_pos hl] at h
 obtain ⟨⟨l2, t2, e2⟩, h2, h⟩ := Option.bind_eq_some_iff.mp h
 dsimp only at h
 by_cases hz2 : e2 = 0
 case neg =>
  rw [if_neg hz2] at h
  cases h
  refine (read_fail3 k a0 l1 t1 l2 t2 e2 w h1 hl h2 hz2).mono ?_
  rintro e w' ⟨rfl, hb⟩
  exact ⟨_, _, rfl, Kd.R_nil _ _ _ _ _, Kd.R_nil _ _ _ _ _, hb⟩
 rw [if_pos hz2] at h
 subst hz2
 obtain ⟨⟨l3, t3, e3⟩, h3, h⟩ := Option.bind_eq_some_iff.mp h
 dsimp only at h
 by_cases hz3 : e3 = 0
 case neg =>
  rw [if_neg hz3] at h
  cases h
  refine (read_fail4 k a0 l1 t1 l2 t2 l3 t3 e3 w h1 hl h2 h3 hz3).mono ?_
  rintro e w' ⟨rfl, hb⟩
  exact ⟨_, _, rfl, Kd.R_nil _ _ _ _ _, Kd.R_nil _ _ _ _ _, hb⟩
 rw [if_pos hz3] at h
 subst hz3
 obtain ⟨m, hm, h⟩ := Option.bind_eq_some_iff.mp h
 cases h
 exact read_ok k a0 l1 t1 _ t2 l3 t3 _ w h1 hl h2 h3 hm

end Go.Proofs.Ytpbmcienlbdcbaa.PAll
