/- nand.New: a chip at first. -/
import Derived.Test.YtfolonajajideaaChipREra
import Derived.Deep.RegionHeld3
import Derived.Lib.Hide
namespace Go.Proofs.Ytfolonajajideaa.X
open Go.RowKit Go.Proofs.Ytfolonajajideaa.PAll Go.Proofs.YtfolonajajideaaW.PrintWords Go.Proofs.YtfolonajajideaaW.PrintLast Go.Proofs.YtfolonajajideaaW.PrintMore
set_option linter.unusedVariables false
set_option linter.unusedSimpArgs false
theorem else_E {b : Bool} {X Y E : Prop} (hb : b = true) (h : if b = true then X else Y) : if b = true then X else E := by
  rw [if_pos hb] at h ⊢
  exact h
/-- No block of a chip. -/
def oddB (n x : Int) : Bool := decide (x < 0) || decide (n ≤ x)
/-- n blocks of the same pages; those of S are Bad. -/
def rowL (n : Nat) (ps : List Pg) (S : List Int) : List Blk := (List.range n).map fun (i : Nat) => ⟨ps, 0, 0, S.contains (i : Int)⟩
/-- A chip at first: its blocks, Broken, Off, Ops, the error. -/
def newV (blocks pages : Int) (bad : List Int) : List Blk × Bool × Bool × Int × Int :=
  if blocks < 1 ∨ 32 < blocks ∨ pages < 1 ∨ 16 < pages ∨ bad.any (oddB blocks) = true then ([], false, false, 0, 1)
  else (rowL blocks.toNat (List.replicate pages.toNat zP) bad, false, false, 0, 0)
theorem rowL_length (n : Nat) (ps : List Pg) (S : List Int) : (rowL n ps S).length = n := by simp [rowL]
theorem rowL_at {n : Nat} {ps : List Pg} {S : List Int} {j : Nat} (h : j < n) : (rowL n ps S)[j]? = some ⟨ps, 0, 0, S.contains (j : Int)⟩ := by simp [rowL, h]
theorem rowL_bad {n : Nat} {ps : List Pg} {S : List Int} {b : Int} (h0 : 0 ≤ b) : (rowL n ps S).set b.toNat ⟨ps, 0, 0, true⟩ = rowL n ps (S ++ [b]) := by
  apply List.ext_getElem?
  intro j
  by_cases hj : j < n
  · rw [rowL_at hj]
    by_cases hjb : b.toNat = j
    · subst hjb
      rw [List.getElem?_set_self (by rw [rowL_length]; exact hj)]
      have : ((b.toNat : Nat) : Int) = b := by omega
      simp [this]
    · rw [List.getElem?_set_ne hjb, rowL_at hj]
      have : ¬ (j : Int) = b := by omega
      simp [this]
  · rw [List.getElem?_eq_none (by rw [List.length_set, rowL_length]; omega), List.getElem?_eq_none (by rw [rowL_length]; omega)]

/-- A row of blocks of one's own, laid open. -/
def Row (W : World) (base g : Nat) (l : List Blk) : Prop := ∃ cur : Array Value, W.heap[g]? = some (.cells cur 62 (0, 0)) ∧
  ∀ j x, l[j]? = some x → ∃ c, c.length = 4 ∧ (∀ i u, c[i]? = some u → cur[j * 4 + i]? = some u) ∧ Kd.FK kB W (fun k => base ≤ k ∧ k ≠ g) x c
section
variable {W W1 : World} {base g : Nat} {l : List Blk}
theorem Row.of_N {ok : Nat → Prop} {v : Value} (h : Kd.N kB 62 W base ok v l) (hp : 0 < l.length) (hok : ∀ k, ok k → base ≤ k) : ∃ g cap, v = .slice (some ⟨g, 0, none⟩) l.length cap ∧ base ≤ g ∧ g < W.heap.size ∧ l.length ≤ cap ∧ Row W base g l := by
  obtain ⟨g, cap, cur, rfl, hg, _, hc, hh, hat⟩ := N_open h hp
  refine ⟨g, cap, rfl, hg, blk_lt hh, hc, cur, hh, fun j x hj => ?_⟩
  obtain ⟨c, hcl, hK, hcc⟩ := hat j x hj
  exact ⟨c, hcl, hcc, Kd.FK_mono hK (fun k hk => ⟨hok k hk.1, hk.2⟩)⟩
theorem Row.step (h : Row W base g l) (hm : ∀ k, base ≤ k → k < W.heap.size → W1.heap[k]? = W.heap[k]?) (hg : base ≤ g) : Row W1 base g l := by
  obtain ⟨cur, hh, hr⟩ := h
  refine ⟨cur, (hm g hg (blk_lt hh)).trans hh, fun j x hj => ?_⟩
  obtain ⟨c, hc, hcc, hf⟩ := hr j x hj
  exact ⟨c, hc, hcc, Kd.FK_step hf (fun k hk hlt => hm k hk.1 hlt)⟩
theorem Row.below (h : Row W base g l) (hb : Below W.heap.size W W1) (hg : base ≤ g) : Row W1 base g l := h.step (fun k _ hk => hb.block k hk) hg
theorem Row.far (h : Row W base g l) {p : Addr} (hp : p.block < base) (hg : base ≤ g) (u : Value) : Row (W.setCell p u) base g l := h.step (fun k hk _ => Below.heap_setCell W p u k (by omega)) hg
/-- A cell of an element turned. -/
theorem Row.put (h : Row W base g l) {j : Nat} {x y : Blk} (hj : l[j]? = some x) (i : Nat) (hi : i < 4) (u : Value)
    (hy : ∀ c, Kd.FK kB W (fun k => base ≤ k ∧ k ≠ g) x c → Kd.FK kB W (fun k => base ≤ k ∧ k ≠ g) y (c.set i u)) : Row (W.setCell ⟨g, j * 4 + i, none⟩ u) base g (l.set j y) := by
  obtain ⟨cur, hh, hr⟩ := h
  refine ⟨_, heap_put hh _ u, fun m z hm => ?_⟩
  by_cases hmj : m = j
  · subst hmj
    rw [List.getElem?_set_self (List.getElem?_eq_some_iff.1 hj).1] at hm
    obtain rfl := Option.some.inj hm
    obtain ⟨c, hc, hcc, hf⟩ := hr m x hj
    refine ⟨c.set i u, by rw [List.length_set]; exact hc, fun i' u' hu => ?_, FK_put (hy c hf) (fun k hk => hk.2) u⟩
    by_cases hii : i' = i
    · subst hii
      rw [List.getElem?_set_self (by omega)] at hu
      obtain rfl := Option.some.inj hu
      obtain ⟨z0, hz0⟩ : ∃ z0, c[i']? = some z0 := ⟨_, List.getElem?_eq_getElem (by omega)⟩
      exact put_self (hcc i' z0 hz0)
    · rw [List.getElem?_set_ne (Ne.symm hii)] at hu
      rw [put_ne (by omega)]
      exact hcc i' u' hu
  · rw [List.getElem?_set_ne (Ne.symm hmj)] at hm
    obtain ⟨c, hc, hcc, hf⟩ := hr m z hm
    refine ⟨c, hc, fun i' u' hu => ?_, FK_put hf (fun k hk => hk.2) u⟩
    have : i' < 4 := by have := (List.getElem?_eq_some_iff.1 hu).1; omega
    rw [put_ne (by omega)]
    exact hcc i' u' hu
theorem Row.bad (h : Row W base g l) {j : Nat} {x : Blk} (hj : l[j]? = some x) : Row (W.setCell ⟨g, j * 4 + 3, none⟩ (.bool true)) base g (l.set j ⟨x.f0, x.f1, x.f2, true⟩) :=
  h.put hj 3 (by omega) _ (fun c hf => by
    obtain ⟨A0, c0, rfl, l0, g0⟩ := k62_openF hf
    exact k62_mkF W _ ⟨x.f0, x.f1, x.f2, true⟩ l0 g0)
theorem Row.pages (h : Row W base g l) {j : Nat} {x : Blk} (hj : l[j]? = some x) {b' : Nat} {ok : Nat → Prop} {v : Value} {ps : List Pg} (hR : kP.R 54 W b' ok v ps) (hok : ∀ k, ok k → base ≤ k ∧ k ≠ g) :
    Row (W.setCell ⟨g, j * 4, none⟩ v) base g (l.set j ⟨ps, x.f1, x.f2, x.f3⟩) := by
  obtain ⟨A2, c2, rfl, hc2, _⟩ := Kd.R_reads hR
  exact h.put hj 0 (by omega) _ (fun c hf => by
    obtain ⟨A0, c0, rfl, l0, g0⟩ := k62_openF hf
    exact k62_mkF W _ ⟨ps, x.f1, x.f2, x.f3⟩ hc2 (Kd.F_mono (Kd.R_F hR) hok))
theorem Row.cell (h : Row W base g l) {j : Nat} {x : Blk} (hj : l[j]? = some x) : (∃ A c, W.cell? ⟨g, j * 4, none⟩ = some (.slice A x.f0.length c)) ∧ W.cell? ⟨g, j * 4 + 3, none⟩ = some (.bool x.f3) ∧ W.frozen? ⟨g, j * 4, none⟩ = false ∧ W.frozen? ⟨g, j * 4 + 3, none⟩ = false := by
  obtain ⟨cur, hh, hr⟩ := h
  obtain ⟨c, hc, hcc, hf⟩ := hr j x hj
  obtain ⟨A0, c0, rfl, l0, g0⟩ := k62_openF hf
  exact ⟨⟨A0, c0, (blk_cell hh _).trans (hcc 0 _ rfl)⟩, (blk_cell hh _).trans (hcc 3 _ rfl), blk_frozen hh _, blk_frozen hh _⟩
theorem Row.C_ (h : Row W base g l) (hl : l.length ≤ 1000000) : Kd.C kB W (some ⟨g, 0, none⟩) l.length l := by
  obtain ⟨cur, hh, hr⟩ := h
  refine ⟨rfl, by omega, fun _ => ⟨_, rfl, fun j x hj => ?_⟩⟩
  obtain ⟨c, hc, hcc, hf⟩ := hr j x hj
  refine ⟨c, hc, Kd.FK_now hf, fun i u hu => ?_⟩
  show W.cell? ((⟨g, 0, none⟩ : Addr).add (j * 4 + i)) = some u
  rw [add_at, Nat.zero_add]
  exact (blk_cell hh _).trans (hcc i u hu)
theorem Row.F (h : Row W base g l) (hl : l.length ≤ 1000000) (hg : base ≤ g) : Kd.F kB W (fun k => base ≤ k) (some ⟨g, 0, none⟩) l.length l := fun _ hW => (h.step (fun k hk hlt => hW k hk hlt) hg).C_ hl
end
theorem oddB_succ (n : Int) (l : List Int) (k : Nat) (h : k < l.length) : (l.take (k + 1)).any (oddB n) = ((l.take k).any (oddB n) || oddB n (l.getD k 0)) := by
  rw [List.take_succ_eq_append_getElem h, List.any_append, List.getD_eq_getElem?_getD, List.getElem?_eq_getElem h]
  simp
theorem oddB_hit (n : Int) (l : List Int) (k : Nat) (h : k < l.length) (hb : oddB n (l.getD k 0) = true) : l.any (oddB n) = true := by
  rw [List.getD_eq_getElem?_getD, List.getElem?_eq_getElem h] at hb
  exact List.any_eq_true.mpr ⟨_, List.getElem_mem h, hb⟩
/-- The first i blocks have pages. -/
def mixL (n i : Nat) (ps : List Pg) : List Blk := (List.range n).map fun (j : Nat) => if j < i then ⟨ps, 0, 0, false⟩ else zB
theorem mixL_length (n i : Nat) (ps : List Pg) : (mixL n i ps).length = n := by simp [mixL]
theorem mixL_at {n i : Nat} {ps : List Pg} {j : Nat} (h : j < n) : (mixL n i ps)[j]? = some (if j < i then ⟨ps, 0, 0, false⟩ else zB) := by simp [mixL, h]
theorem mixL_zero (n : Nat) (ps : List Pg) : mixL n 0 ps = List.replicate n zB := by
  apply List.ext_getElem?
  intro j
  by_cases hj : j < n
  · rw [mixL_at hj, List.getElem?_replicate_of_lt hj, if_neg (by omega)]
  · rw [List.getElem?_eq_none (by rw [mixL_length]; omega), List.getElem?_eq_none (by rw [List.length_replicate]; omega)]
theorem mixL_full (n : Nat) (ps : List Pg) : mixL n n ps = rowL n ps [] := by
  apply List.ext_getElem?
  intro j
  by_cases hj : j < n
  · rw [mixL_at hj, rowL_at hj, if_pos hj]
    simp
  · rw [List.getElem?_eq_none (by rw [mixL_length]; omega), List.getElem?_eq_none (by rw [rowL_length]; omega)]
theorem mixL_next {n i : Nat} {ps : List Pg} (h : i < n) : (mixL n i ps).set i ⟨ps, zB.f1, zB.f2, zB.f3⟩ = mixL n (i + 1) ps := by
  apply List.ext_getElem?
  intro j
  by_cases hj : j < n
  · rw [mixL_at hj]
    by_cases hji : i = j
    · subst hji
      rw [List.getElem?_set_self (by rw [mixL_length]; exact hj), if_pos (by omega)]
      rfl
    · rw [List.getElem?_set_ne hji, mixL_at hj]
      by_cases h2 : j < i
      · rw [if_pos h2, if_pos (by omega)]
      · rw [if_neg h2, if_neg (by omega)]
  · rw [List.getElem?_eq_none (by rw [List.length_set, mixL_length]; omega), List.getElem?_eq_none (by rw [mixL_length]; omega)]
theorem odd_no {n : Int} {bad : List Int} (h : bad.any (oddB n) = false) {k : Nat} (hk : k < bad.length) : 0 ≤ bad.getD k 0 ∧ bad.getD k 0 < n := by
  have h1 : oddB n (bad.getD k 0) = false := by
    cases h2 : oddB n (bad.getD k 0) with
    | false => rfl
    | true => rw [oddB_hit n bad k hk h2] at h; cases h
  unfold oddB at h1
  simp only [Bool.or_eq_false_iff, decide_eq_false_iff_not] at h1
  omega
/-- make([]Page, n). -/
theorem make_pages (pages : Int) (h0 : 0 ≤ pages) (h1 : pages ≤ 1000) : ∃ mc : Array Value,
    (∀ W : World, (Instr.makeSlice 60 (.int .i64 pages) (.int .i64 pages)).run Try.prog W = .ok (.slice (some ⟨W.heap.size, 0, none⟩) pages.toNat pages.toNat) (W.alloc (.cells mc 54))) ∧
    ∀ (W : World) (base : Nat), base ≤ W.heap.size → kP.R 54 (W.alloc (.cells mc 54)) base (fun k => k = W.heap.size) (.slice (some ⟨W.heap.size, 0, none⟩) pages.toNat pages.toNat) (List.replicate pages.toNat zP) := by
  obtain ⟨i0, hi, hz0, hz1, hz2⟩ := info_parts xinfo54
  refine ⟨madeCells (Value.agg #[.bool false, .string ⟨#[]⟩, .string ⟨#[]⟩]).cells (pages.toNat * 3), fun W => ?_, fun W base hb => ?_⟩
  · have hr := run_make (P := Try.prog) W 60 54 i0 _ Try.underlying60 hi hz0 .i64 .i64 pages pages h0 (Int.le_refl _) (by rw [hz2]; omega) (by omega)
    rw [hz1] at hr
    exact hr
  · have h2 := World.ownsRow_lit (base := base) (e := 54) (size := 3) W (madeCells (Value.agg #[.bool false, .string ⟨#[]⟩, .string ⟨#[]⟩]).cells (pages.toNat * 3)) pages.toNat hb (by simp [maxLen]; omega) (by simp [size_madeCells])
    have hrep := Kd.reps_made (R := kP.M W base (fun _ => False)) (z := .agg #[.bool false, .string ⟨#[]⟩, .string ⟨#[]⟩]) (size := 3) (z0 := zP) rfl (by omega) (k54_mkM W base _ zP) pages.toNat
    refine ⟨fun k hk => ?_, (madeCells (Value.agg #[.bool false, .string ⟨#[]⟩, .string ⟨#[]⟩]).cells (pages.toNat * 3)).toList, ?_, ?_⟩
    · have : W.heap.size = k := by simpa [Value.ownBlock] using hk
      exact this.symm
    · rw [List.length_replicate]; exact h2
    · exact hrep.imp_ (fun p c hp => kP.M_mono (fun k hk => hk.1.elim) (Kd.M_below (kP.M_bound hp) (below_alloc (Below.refl _ _) _)))
end Go.Proofs.Ytfolonajajideaa.X
