/- A range over an iterator that ranges over an iterator itself: what is asked of both. -/
import Derived.Test.YtnmafncghbkogaaPAllx0
import Derived.RangeFuncBox
import Derived.RangeFuncLeaves
import Derived.RangeFuncBound
import Derived.RangeFuncCalls
import Derived.Shelf.Abstract
import Derived.WalkKit
import Derived.OwnWalkIn
import Derived.TacticsInMore
import Derived.LoopNIn
import Derived.LoopIn
import Derived.Lib.Hide
namespace Go.Proofs.Ytnmafncghbkogaa.X
open Go Go.RowKit
set_option linter.unusedVariables false
set_option linter.unusedSimpArgs false
/-- What was laid from block B on stands as it stood, if it is no cells, or lies from block S on ahead of block E. -/
structure Keeps (B S E : Nat) (W W' : World) : Prop where
  size : W.heap.size ≤ W'.heap.size
  same : ∀ (k : Nat) (o : Obj), B ≤ k → W.heap[k]? = some o → o.isCells = false → W'.heap[k]? = some o
  cells : ∀ k, S ≤ k → k < E → k < W.heap.size → W'.heap[k]? = W.heap[k]?
theorem Keeps.refl (B S E : Nat) (W : World) : Keeps B S E W W := ⟨Nat.le_refl _, fun _ _ _ h _ => h, fun _ _ _ _ => rfl⟩
theorem Keeps.trans {B S E : Nat} {X Y Z : World} (h : Keeps B S E X Y) (k : Keeps B S E Y Z) : Keeps B S E X Z := ⟨Nat.le_trans h.size k.size, fun i o hB hi ho => k.same i o hB (h.same i o hB hi ho) ho, fun i h1 h2 h3 => (k.cells i h1 h2 (by have := h.size; omega)).trans (h.cells i h1 h2 h3)⟩
theorem Keeps.mono {B B' S S' E E' : Nat} {W W' : World} (h : Keeps B S E W W') (hB : B ≤ B') (hS : S ≤ S' ∨ E' ≤ S') (hE : E' ≤ E ∨ E' ≤ S') : Keeps B' S' E' W W' := ⟨h.size, fun k o hk => h.same k o (Nat.le_trans hB hk), fun k h1 h2 => h.cells k (by omega) (by omega)⟩
theorem Keeps.of_below {B S E : Nat} {W W' : World} (h : Below W.heap.size W W') : Keeps B S E W W' := ⟨h.size, fun k o _ hk _ => (h.block k (Array.getElem?_eq_some_iff.1 hk).1).trans hk, fun k _ _ h3 => h.block k h3⟩
theorem Keeps.of_grown {B S E : Nat} {W W' : World} {row : Option Nat} (hg : W.grownBy W' row) (hr : ∀ r, row = some r → (r < S ∨ E ≤ r) ∧ (r < B ∨ ∃ o, W.heap[r]? = some o ∧ o.isCells = true)) : Keeps B S E W W' :=
  ⟨hg.size, fun k o hB hk ho => (hg.block k (Array.getElem?_eq_some_iff.1 hk).1 (fun e => by
    rcases (hr k e.symm).2 with h | ⟨o', h, h2⟩
    · omega
    · rw [hk] at h; cases h; rw [ho] at h2; cases h2)).trans hk, fun k h1 h2 h3 => hg.block k h3 (fun e => by rcases (hr k e.symm).1 with h | h <;> omega)⟩
theorem Keeps.put {B S E : Nat} (W : World) (l : Nat) (o : Obj) (h : l < B) (hS : l < S ∨ E ≤ l) : Keeps B S E W (W.putObj l o) := Keeps.of_grown (grownBy_putObj' W l o) (fun r e => by cases e; exact ⟨hS, .inl h⟩)
theorem Keeps.set {B S E b : Nat} (W : World) (i : Nat) (v : Value) (h : b < B) (hS : b < S ∨ E ≤ b) : Keeps B S E W (W.setCell ⟨b, i, none⟩ v) :=
  ⟨(KeepsOthers.setCell W ⟨b, i, none⟩ v).size, fun k o hB hk _ => (Below.heap_setCell W ⟨b, i, none⟩ v k (by show k ≠ b; omega)).trans hk, fun k h1 _ _ => Below.heap_setCell W ⟨b, i, none⟩ v k (by show k ≠ b; omega)⟩
theorem Keeps.set' {B S E b : Nat} (W : World) (i : Nat) (v : Value) (h : b < S ∨ E ≤ b) {o : Obj} (ho : W.heap[b]? = some o) (hc : o.isCells = true) : Keeps B S E W (W.setCell ⟨b, i, none⟩ v) :=
  ⟨(KeepsOthers.setCell W ⟨b, i, none⟩ v).size, fun k o' hB hk hc' => (Below.heap_setCell W ⟨b, i, none⟩ v k (by show k ≠ b; intro e; subst e; rw [ho] at hk; cases hk; rw [hc] at hc'; cases hc')).trans hk, fun k h1 h2 _ => Below.heap_setCell W ⟨b, i, none⟩ v k (by show k ≠ b; omega)⟩
theorem ownFrom_mono {β : Type} {B B' : Nat} {I : β → World → Prop} (h : OwnFrom B I) (hB : B ≤ B') : OwnFrom B' I := fun s W W' row hs hg hr => h s W W' row hs hg (fun r e => ⟨Nat.le_trans hB (hr r e).1, (hr r e).2⟩)

/-- What an iterator does with the function that it is given (it lays c blocks ahead of the first round; these are to be kept). -/
def SeqOver {α : Type} (c : Nat) (F : Fence) (n : Nat) (P : Program) (g : Nat) (lb : Array Value) (encs : α → Array Value) (Kp : World → World → Prop) (S Sp : List α → Prop) (N : Nat) (w : World) : Prop :=
  ∀ (l : Nat) (J Jx : List α → World → Prop) (W : World), Below w.heap.size w W → OwnFrom W.heap.size J → OwnFrom W.heap.size Jx →
    (∀ pre x W1, W.heap.size + c ≤ W1.heap.size → J pre W1 → pre.length < N → YieldAt F (n - 1) P l (encs x) W1 fun e W' =>
      Keeps W.heap.size W.heap.size (W.heap.size + c) W1 W' ∧ ((e = .returned (.bool true) ∧ J (pre ++ [x]) W' ∧ Kp W1 W') ∨ (e = .returned (.bool false) ∧ Jx (pre ++ [x]) W'))) →
    J [] W →
    CallsIn F n P g (#[.func (.yield l) #[] #[]] ++ lb) W fun e W' => (∃ v, e = .returned v) ∧ ((∃ xs, S xs ∧ J xs W') ∨ (∃ pre, Sp pre ∧ Jx pre W'))
/-- How the body of a round may be left. -/
def overPost {α : Type} (B S E : Nat) (Kp : World → World → Prop) (I : List α → World → Prop) (Ix : Code → List α → World → Prop) (xs : List α) (W : World) : Exit → Act → World → Prop
  | .normal, _, W' => Keeps B S E W W' ∧ Kp W W' ∧ I xs W'
  | .ret, _, W' => Keeps B S E W W' ∧ Ix .ret xs W'
  | .exit id, _, W' => Keeps B S E W W' ∧ Ix (.exit id) xs W'
  | .goto t, _, W' => Keeps B S E W W' ∧ Ix (.goto t) xs W'
  | .panic _, _, _ => False
  | .outgrown, _, _ => False
variable {F : Fence} {n : Nat} {P : Program}
theorem wpIn_rangeOver {α : Type} {g : Operand} {ps : Array Tmp} {assign body : Code} {Q : Exit → Act → World → Prop} {a : Act} {w : World}
    (hro : F.round = none) (h1 : 1 ≤ n) {gf : Nat} {lb : Array Value} (hg : a.eval g = .func (.func gf) #[] lb) (hFg : F.fn gf) (eg : ∀ args w, (callFunc gf args).run P w = .ok (.enter gf args) w)
    {encs : α → Array Value} {Kp : World → World → Prop} {S Sp : List α → Prop} {N : Nat} {w0 : World} {c : Nat} (hseq : SeqOver c F (n - 1) P gf lb encs Kp S Sp N w0)
    (hKt : ∀ {A B C : World}, Kp A B → Kp B C → Kp A C) (hKb : ∀ (W : World) (l : Nat) (o o' : Obj), w.heap.size ≤ l → W.heap[l]? = some o → Kp W (W.putObj l o')) (hb0 : Below w0.heap.size w0 w) (hps : ∀ x, (encs x).size = ps.size)
    (I : List α → World → Prop) (Ix : Code → List α → World → Prop) (hI : OwnFrom w.heap.size I) (hIx : ∀ c, OwnFrom w.heap.size (Ix c)) (h0 : I [] w) (A : List α → α → Act → World → Prop) (hA : ∀ pre x a', OwnFrom w.heap.size (fun (_ : Unit) W => A pre x a' W))
    (hassign : ∀ (l : Nat) (pre : List α) (x : α) (W : World) (K : Act → World → Prop), w.heap.size + 2 + c ≤ W.heap.size → I pre W → pre.length < N → (∀ a' W', Keeps w.heap.size (w.heap.size + 2) (w.heap.size + 2 + c) W W' → Kp W W' → A pre x a' W' → K a' W') →
      assign.wpIn (F.inRound l) (n - 1 - 1) P (Exit.then K (fun _ _ _ => False)) { tmps := (ps.zip (encs x)).foldl (fun t (p, v) => t.setIfInBounds p v) a.tmps, defers := [] } W)
    (hbody : ∀ (l : Nat) (pre : List α) (x : α) (a' : Act) (W : World), w.heap.size + 2 + c ≤ W.heap.size → A pre x a' W → pre.length < N → body.wpIn (F.inRound l) (n - 1 - 1) P (overPost w.heap.size (w.heap.size + 2) (w.heap.size + 2 + c) Kp I Ix (pre ++ [x]) W) a' W)
    (hdone : ∀ (D : Nat) (xs : List α) (W : World), w.heap.size ≤ D → S xs → I xs W → W.heap[D]? = some (.deferred (some [])) → Q .normal { a with defers := { target := .collected D, args := #[] } :: a.defers } W)
    (hstop : ∀ (D : Nat) (c : Code) (pre : List α) (W : World), w.heap.size ≤ D → Sp pre → Ix c pre W → W.heap[D]? = some (.deferred (some [])) → c.wpIn F n P Q { a with defers := { target := .collected D, args := #[] } :: a.defers } W) :
    (Code.rangeFunc g ps assign body).wpIn F n P Q a w := by
  refine wpIn_rangeFunc ?_
  intro fn hfn
  rw [hro]
  obtain ⟨B, hB⟩ : ∃ B, w.heap.size = B := ⟨_, rfl⟩
  obtain ⟨rec, hrec⟩ : ∃ rec : LoopState → Option Code → Loop, rec = fun st pe => { state := st, pending := pe, fn, tmps := a.tmps, params := ps, assign, body, defers := B } := ⟨_, rfl⟩
  obtain ⟨W1, hW1⟩ : ∃ W1, (w.alloc (.deferred (some []))).alloc (.loop (rec .ready none)) = W1 := ⟨_, rfl⟩
  have hs1 : W1.heap.size = B + 2 := by rw [← hW1]; simp [hB]
  have hK1 : W1.heap[B]? = some (.deferred (some [])) := by rw [← hW1, ← hB]; exact (Below.heap_alloc _ _ _ (by simp)).trans (World.alloc_heap_new w _)
  have hL1 : W1.heap[B + 1]? = some (.loop (rec .ready none)) := by
    have := World.alloc_heap_new (w.alloc (.deferred (some []))) (.loop (rec .ready none))
    rw [World.size_alloc, hW1, hB] at this
    exact this
  have hI1 : I [] W1 := by rw [← hW1]; exact hI.alloc _ (hI.alloc _ h0)
  have hb1 : Below w0.heap.size w0 W1 := by rw [← hW1]; exact hb0.trans ((((Below.refl _ w).alloc (Nat.le_refl _) _).alloc (by simp) _).mono hb0.size)
  have hent := run_enterLoop_outer (P := P) (w := w) fn a.tmps ps assign body
  rw [hB] at hI hIx hA hKb hdone hstop hassign hbody hent
  refine ⟨B + 1, [{ target := .collected B, args := #[] }], W1, { target := .fn (.func gf) lb, args := #[.func (.yield (B + 1)) #[] #[]] }, W1, gf, #[.func (.yield (B + 1)) #[] #[]] ++ lb, W1, ?_, ?_, ?_, ?_, fun _ => h1, ?_⟩
  · rw [← hW1, hrec]; exact hent
  · simp only [resolve, hg]
    simp [go_sem]
  · intro f' hf'; simp [Target.leads] at hf'; subst hf'; exact hFg
  · simp [invoke, go_sem, eg]
  · have abide : ∀ (st : LoopState) (pe : Option Code) (X Y : World) (row : Option Nat), X.grownBy Y row → (∀ r, row = some r → W1.heap.size ≤ r ∧ ∃ o : Obj, X.heap[r]? = some o ∧ o.isCells = false) →
        X.heap[B + 1]? = some (.loop (rec st pe)) ∧ X.heap[B]? = some (.deferred (some [])) → Y.heap[B + 1]? = some (.loop (rec st pe)) ∧ Y.heap[B]? = some (.deferred (some [])) := fun st pe X Y row hg' hr hs =>
      ⟨(hg'.block _ (Array.getElem?_eq_some_iff.1 hs.1).1 (fun e => by have := (hr _ e.symm).1; omega)).trans hs.1, (hg'.block _ (Array.getElem?_eq_some_iff.1 hs.2).1 (fun e => by have := (hr _ e.symm).1; omega)).trans hs.2⟩
    have later : ∀ {X : World} {row : Option Nat}, (∀ r, row = some r → W1.heap.size ≤ r ∧ ∃ o : Obj, X.heap[r]? = some o ∧ o.isCells = false) → (∀ r, row = some r → B ≤ r ∧ ∃ o : Obj, X.heap[r]? = some o ∧ o.isCells = false) :=
      fun hr r e => ⟨by have := (hr r e).1; omega, (hr r e).2⟩
    refine (hseq (B + 1) (fun pre W => I pre W ∧ W.heap[B + 1]? = some (.loop (rec .ready none)) ∧ W.heap[B]? = some (.deferred (some [])))
      (fun pre W => ∃ c, Ix c pre W ∧ W.heap[B + 1]? = some (.loop (rec .done (some c))) ∧ W.heap[B]? = some (.deferred (some []))) W1 hb1
      (fun s X Y row hs hg' hr => ⟨hI s X Y row hs.1 hg' (later hr), abide _ _ X Y row hg' hr hs.2⟩)
      (fun s X Y row ⟨c, hc, hl⟩ hg' hr => ⟨c, hIx c s X Y row hc hg' (later hr), abide _ _ X Y row hg' hr hl⟩) ?_ ⟨hI1, hL1, hK1⟩).mono ?_
    · rintro pre x W hsz ⟨hi, hl, hk⟩ hlen
      have hy := run_yield (P := P) (args := encs x) hl (by rw [hrec]; exact hps x)
      rw [hrec] at hy
      refine ⟨fn, _, assign, body, hy, roundIn_of_wpIn hfn (hassign _ pre x W _ (by omega) hi hlen ?_)⟩
      clear hy
      intro a' Wa hka hpa hax
      have hla := hka.same _ _ (by omega) hl rfl
      have hda := hka.same _ _ (Nat.le_refl _) hk rfl
      refine ⟨_, run_beginRound hla (by rw [hrec]), ?_⟩
      have hl2 : (Wa.putObj (B + 1) (.loop { rec .ready none with state := .busy })).heap[B + 1]? = some (.loop { rec .ready none with state := .busy }) := World.putObj_heap_same (Array.getElem?_eq_some_iff.1 hla).1
      have hk2 : (Wa.putObj (B + 1) (.loop { rec .ready none with state := .busy })).heap[B]? = some (.deferred (some [])) := (World.putObj_heap_other (by omega)).trans hda
      have hw2 : Kp Wa (Wa.putObj (B + 1) (.loop { rec .ready none with state := .busy })) := hKb _ _ _ _ (by omega) hla
      have hq2 : Keeps W1.heap.size W1.heap.size (W1.heap.size + c) Wa (Wa.putObj (B + 1) (.loop { rec .ready none with state := .busy })) := Keeps.put _ _ _ (by omega) (by omega)
      refine wpIn_mono (hbody _ pre x a' _ (Nat.le_trans (show B + 2 + c ≤ Wa.heap.size by have := hka.size; omega) hq2.size) ((hA pre x a').putObj (s := ()) _ hax (by omega) hla rfl) hlen) ?_
      have fin : ∀ (jump : Option Code) (W3 : World), Keeps B (B + 2) (B + 2 + c) (Wa.putObj (B + 1) (.loop { rec .ready none with state := .busy })) W3 →
          (Instr.endRound (B + 1) jump).run P W3 = .ok (.bool jump.isNone) (W3.putObj (B + 1) (.loop (rec (if jump.isNone then .ready else .done) jump))) ∧
          W3.heap[B + 1]? = some (.loop { rec .ready none with state := .busy }) ∧
          (W3.putObj (B + 1) (.loop (rec (if jump.isNone then .ready else .done) jump))).heap[B + 1]? = some (.loop (rec (if jump.isNone then .ready else .done) jump)) ∧
          (W3.putObj (B + 1) (.loop (rec (if jump.isNone then .ready else .done) jump))).heap[B]? = some (.deferred (some [])) ∧
          Keeps W1.heap.size W1.heap.size (W1.heap.size + c) W (W3.putObj (B + 1) (.loop (rec (if jump.isNone then .ready else .done) jump))) := fun jump W3 hk3 => by
        have hl3 := hk3.same _ _ (by omega) hl2 rfl
        have := run_endRound (P := P) jump hl3
        rw [hrec] at this ⊢
        exact ⟨this, by rw [hrec] at hl3; exact hl3, World.putObj_heap_same (Array.getElem?_eq_some_iff.1 hl3).1, (World.putObj_heap_other (by omega)).trans (hk3.same _ _ (Nat.le_refl _) hk2 rfl),
          ((hka.mono (by omega) (by omega) (by omega)).trans hq2).trans ((hk3.mono (by omega) (by omega) (by omega)).trans (Keeps.put _ _ _ (by omega) (by omega)))⟩
      rintro e a3 W3 hp
      cases e with
      | normal =>
        obtain ⟨hk3, hkp3, hi3⟩ := hp
        obtain ⟨hr, hl3, hl4, hk4, hall⟩ := fin none W3 hk3
        exact ⟨_, _, hr, hall, .inl ⟨rfl, ⟨hI.putObj _ hi3 (by omega) hl3 rfl, hl4, hk4⟩, hKt hpa (hKt (hKt hw2 hkp3) (hKb _ _ _ _ (by omega) hl3))⟩⟩
      | ret =>
        obtain ⟨hk3, hi3⟩ := hp
        obtain ⟨hr, hl3, hl4, hk4, hall⟩ := fin (some .ret) W3 hk3
        exact ⟨_, _, hr, hall, .inr ⟨rfl, .ret, (hIx _).putObj _ hi3 (by omega) hl3 rfl, hl4, hk4⟩⟩
      | exit id =>
        obtain ⟨hk3, hi3⟩ := hp
        obtain ⟨hr, hl3, hl4, hk4, hall⟩ := fin (some (.exit id)) W3 hk3
        exact ⟨_, _, hr, hall, .inr ⟨rfl, .exit id, (hIx _).putObj _ hi3 (by omega) hl3 rfl, hl4, hk4⟩⟩
      | goto t =>
        obtain ⟨hk3, hi3⟩ := hp
        obtain ⟨hr, hl3, hl4, hk4, hall⟩ := fin (some (.goto t)) W3 hk3
        exact ⟨_, _, hr, hall, .inr ⟨rfl, .goto t, (hIx _).putObj _ hi3 (by omega) hl3 rfl, hl4, hk4⟩⟩
      | panic ch => exact hp.elim
      | outgrown => exact hp.elim
    · rintro e W2 ⟨⟨v, rfl⟩, (⟨xs, hS, hi, hl, hk⟩ | ⟨pre, hSp, c, hi, hl, hk⟩)⟩
      · exact ⟨none, _, by have := run_endLoop (P := P) hl (by rw [hrec]; simp); rw [hrec] at this; exact this, hdone _ xs _ (Nat.le_refl _) hS (hI.putObj _ hi (by omega) hl rfl) ((World.putObj_heap_other (by omega)).trans hk)⟩
      · exact ⟨some c, _, by have := run_endLoop (P := P) hl (by rw [hrec]; simp); rw [hrec] at this; exact this, hstop _ c pre _ (Nat.le_refl _) hSp ((hIx c).putObj _ hi (by omega) hl rfl) ((World.putObj_heap_other (by omega)).trans hk)⟩
end Go.Proofs.Ytnmafncghbkogaa.X
