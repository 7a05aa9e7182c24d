/- nand.New: a chip at first. -/
import Derived.Test.YthjjngfbpoapnaaChipREra
import Derived.Deep.RegionHeld3
import Derived.Lib.Hide
namespace Go.Proofs.Ythjjngfbpoapnaa.X
open Go.RowKit Go.Proofs.Ythjjngfbpoapnaa.PAll Go.Proofs.YthjjngfbpoapnaaW.PrintWords Go.Proofs.YthjjngfbpoapnaaW.PrintLast Go.Proofs.YthjjngfbpoapnaaW.PrintMore
set_option linter.unusedVariables false
set_option linter.unusedSimpArgs false

theorem else_E {b : Bool} {X Y E : Prop} (hb : b = true) (h : if b = true then X else Y) : if b = true then X else E := by
  rw [if_pos hb] at h ⊢
  exact h
/-- No block of a chip. -/
def oddB (n x : Int) : Bool := decide (x < 0) || decide (n ≤ x)
/-- n blocks of the same pages; those of S are Bad. -/
def rowL (n : Nat) (ps : List Pg) (S : List Int) : List Blk := (List.range n).map fun (i : Nat) => ⟨ps, 0, 0, S.contains (i : Int)⟩
/-- A chip at first: its blocks, Broken, Off, Ops, the error. -/
def newV (blocks pages : Int) (bad : List Int) : List Blk × Bool × Bool × Int × Int :=
  if blocks < 1 ∨ 32 < blocks ∨ pages < 1 ∨ 16 < pages ∨ bad.any (oddB blocks) = true then ([], false, false, 0, 1)
  else (rowL blocks.toNat (List.replicate pages.toNat zP) bad, false, false, 0, 0)
theorem rowL_length (n : Nat) (ps : List Pg) (S : List Int) : (rowL n ps S).length = n := by simp [rowL]
theorem rowL_at {n : Nat} {ps : List Pg} {S : List Int} {j : Nat} (h : j < n) : (rowL n ps S)[j]? = some ⟨ps, 0, 0, S.contains (j : Int)⟩ := by simp [rowL, h]
theorem rowL_bad {n : Nat} {ps : List Pg} {S : List Int} {b : Int} (h0 : 0 ≤ b) : (rowL n ps S).set b.toNat ⟨ps, 0, 0, true⟩ = rowL n ps (S ++ [b]) := by
  apply List.ext_getElem?
  intro j
  by_cases hj : j < n
  · rw [rowL_at hj]
    by_cases hjb : b.toNat = j
    · subst hjb
      rw [List.getElem?_set_self (by rw [rowL_length]; exact hj)]
      have : ((b.toNat : Nat) : Int) = b := by omega
      simp [this]
    · rw [List.getElem?_set_ne hjb, rowL_at hj]
      have : ¬ (j : Int) = b := by omega
      simp [this]
  · rw [List.getElem?_eq_none (by rw [List.length_set, rowL_length]; omega), List.getElem?_eq_none (by rw [rowL_length]; omega)]

/-- A row of blocks of one's own, laid open. -/
def Row (W : World) (base g : Nat) (l : List Blk) : Prop := ∃ cur : Array Value, W.heap[g]? = some (.cells cur 44 (0, 0)) ∧
  ∀ j x, l[j]? = some x → ∃ c, c.length = 4 ∧ (∀ i u, c[i]? = some u → cur[j * 4 + i]? = some u) ∧ Kd.FK kB W (fun k => base ≤ k ∧ k ≠ g) x c
section
variable {W W1 : World} {base g : Nat} {l : List Blk}
theorem Row.of_N {ok : Nat → Prop} {v : Value} (h : Kd.N kB 44 W base ok v l) (hp : 0 < l.length) (hok : ∀ k, ok k → base ≤ k) : ∃ g cap, v = .slice (some ⟨g, 0, none⟩) l.length cap ∧ base ≤ g ∧ g < W.heap.size ∧ l.length ≤ cap ∧ Row W base g l := by
  obtain ⟨g, cap, cur, rfl, hg, _, hc, hh, hat⟩ := N_open h hp
  refine ⟨g, cap, rfl, hg, blk_lt hh, hc, cur, hh, fun j x hj => ?_⟩
  obtain ⟨c, hcl, hK, hcc⟩ := hat j x hj
  exact ⟨c, hcl, hcc, Kd.FK_mono hK (fun k hk => ⟨hok k hk.1, hk.2⟩)⟩
theorem Row.step (h : Row W base g l) (hm : ∀ k, base ≤ k → k < W.heap.size → W1.heap[k]? = W.heap[k]?) (hg : base ≤ g) : Row W1 base g l := by
  obtain ⟨cur, hh, hr⟩ := h
  refine ⟨cur, (hm g hg (blk_lt hh)).trans hh, fun j x hj => ?_⟩
  obtain ⟨c, hc, hcc, hf⟩ := hr j x hj
  exact ⟨c, hc, hcc, Kd.FK_step hf (fun k hk hlt => hm k hk.1 hlt)⟩
theorem Row.below (h : Row W base g l) (hb : Below W.heap.size W W1) (hg : base ≤ g) : Row W1 base g l := h.step (fun k _ hk => hb.block k hk) hg
theorem Row.far (h : Row W base g l) {p : Addr} (hp : p.block < base) (hg : base ≤ g) (u : Value) : Row (W.setCell p u) base g l := h.step (fun k hk _ => Below.heap_setCell W p u k (by omega)) hg
/-- A cell of an element turned. -/
theorem Row.put (h : Row W base g l) {j : Nat} {x y : Blk} (hj : l[j]? = some x) (i : Nat) (hi : i < 4) (u : Value)
    (hy : ∀ c, Kd.FK kB W (fun k => base ≤ k ∧ k ≠ g) x c → Kd.FK kB W (fun k => base ≤ k ∧ k ≠ g) y (c.set i u)) : Row (W.setCell ⟨g, j * 4 + i, none⟩ u) base g (l.set j y) := by
  obtain ⟨cur, hh, hr⟩ := h
  refine ⟨_, heap_put hh _ u, fun m z hm => ?_⟩
  by_cases hmj : m = j
  · subst hmj
    rw [List.getElem?_set_self (List.getElem?_eq_some_iff.1 hj).1] at hm
    obtain rfl := Option.some.inj hm
    obtain ⟨c, hc, hcc, hf⟩ := hr m x hj
    refine ⟨c.set i u, by rw [List.length_set]; exact hc, fun i' u' hu => ?_, FK_put (hy c hf) (fun k hk => hk.2) u⟩
    by_cases hii : i' = i
    · subst hii
      rw [List.getElem?_set_self (by omega)] at hu
      obtain rfl := Option.some.inj hu
      obtain ⟨z0, hz0⟩ : ∃ z0, c[i']? = some z0 := ⟨_, List.getElem?_eq_getElem (by omega)⟩
      exact put_self (hcc i' z0 hz0)
    · rw [List.getElem?_set_ne (Ne.symm hii)] at hu
      rw [put_ne (by omega)]
      exact hcc i' u' hu
  · rw [List.getElem?_set_ne (Ne.symm hmj)] at hm
    obtain ⟨c, hc, hcc, hf⟩ := hr m z hm
    refine ⟨c, hc, fun i' u' hu => ?_, FK_put hf (fun k hk => hk.2) u⟩
    have : i' < 4 := by have := (List.getElem?_eq_some_iff.1 hu).1; omega
    rw [put_ne (by omega)]
    exact hcc i' u' hu
theorem Row.bad (h : Row W base g l) {j : Nat} {x : Blk} (hj : l[j]? = some x) : Row (W.setCell ⟨g, j * 4 + 3, none⟩ (.bool true)) base g (l.set j ⟨x.f0, x.f1, x.f2, true⟩) :=
  h.put hj 3 (by omega) _ (fun c hf => by
    obtain ⟨A0, c0, rfl, l0, g0⟩ := k44_openF hf
    exact k44_mkF W _ ⟨x.f0, x.f1, x.f2, true⟩ l0 g0)
theorem Row.pages (h : Row W base g l) {j : Nat} {x : Blk} (hj : l[j]? = some x) {b' : Nat} {ok : Nat → Prop} {v : Value} {ps : List Pg} (hR : kP.R 46 W b' ok v ps) (hok : ∀ k, ok k → base ≤ k ∧ k ≠ g) :
    Row (W.setCell ⟨g, j * 4, none⟩ v) base g (l.set j ⟨ps, x.f1, x.f2, x.f3⟩) := by
  obtain ⟨A2, c2, rfl, hc2, _⟩ := Kd.R_reads hR
  exact h.put hj 0 (by omega) _ (fun c hf => by
    obtain ⟨A0, c0, rfl, l0, g0⟩ := k44_openF hf
    exact k44_mkF W _ ⟨ps, x.f1, x.f2, x.f3⟩ hc2 (Kd.F_mono (Kd.R_F hR) hok))
theorem Row.cell (h : Row W base g l) {j : Nat} {x : Blk} (hj : l[j]? = some x) : (∃ A c, W.cell? ⟨g, j * 4, none⟩ = some (.slice A x.f0.length c)) ∧ W.cell? ⟨g, j * 4 + 3, none⟩ = some (.bool x.f3) ∧ W.frozen? ⟨g, j * 4, none⟩ = false ∧ W.frozen? ⟨g, j * 4 + 3, none⟩ = false := by
  obtain ⟨cur, hh, hr⟩ := h
  obtain ⟨c, hc, hcc, hf⟩ := hr j x hj
  obtain ⟨A0, c0, rfl, l0, g0⟩ := k44_openF hf
  exact ⟨⟨A0, c0, (blk_cell hh _).trans (hcc 0 _ rfl)⟩, (blk_cell hh _).trans (hcc 3 _ rfl), blk_frozen hh _, blk_frozen hh _⟩
theorem Row.C_ (h : Row W base g l) (hl : l.length ≤ 1000000) : Kd.C kB W (some ⟨g, 0, none⟩) l.length l := by
  obtain ⟨cur, hh, hr⟩ := h
  refine ⟨rfl, by omega, fun _ => ⟨_, rfl, fun j x hj => ?_⟩⟩
  obtain ⟨c, hc, hcc, hf⟩ := hr j x hj
  refine ⟨c, hc, Kd.FK_now hf, fun i u hu => ?_⟩
  show W.cell? ((⟨g, 0, none⟩ : Addr).add (j * 4 + i)) = some u
  rw [add_at, Nat.zero_add]
  exact (blk_cell hh _).trans (hcc i u hu)
theorem Row.F (h : Row W base g l) (hl : l.length ≤ 1000000) (hg : base ≤ g) : Kd.F kB W (fun k => base ≤ k) (some ⟨g, 0, none⟩) l.length l := fun _ hW => (h.step (fun k hk hlt => hW k hk hlt) hg).C_ hl
end

/-! Whether a list has no block: the closure of New, and the library's functions. -/
theorem oddB_fn (n x : Int) (B : Nat) (w : World) (hc : w.cell? ⟨B, 0, none⟩ = some (.int .i64 n)) : Calls Try.prog 24 #[.int .i64 x, .pointer (some ⟨B, 0, none⟩)] w fun e w' => e = .returned (.bool (oddB n x)) ∧ w = w' := by
  have hp : oddB n x = (decide (x < 0) || decide (n ≤ x)) := rfl
  by_cases h1 : x < 0
  · have d1 : decide (x < 0) = true := decide_eq_true h1
    rw [hp, d1]
    clear hp h1
    go_enter Try.func24, Try.ntmps24
    go_wp2
    go_ret
    exact ⟨rfl, rfl⟩
  · have d1 : decide (x < 0) = false := decide_eq_false h1
    obtain ⟨b2, d2⟩ : ∃ b, decide (n ≤ x) = b := ⟨_, rfl⟩
    rw [hp, d1, d2]
    clear hp h1
    cases b2 <;> (go_enter Try.func24, Try.ntmps24; go_wp2; go_ret; exact ⟨rfl, rfl⟩)
theorem oddB_succ (n : Int) (l : List Int) (k : Nat) (h : k < l.length) : (l.take (k + 1)).any (oddB n) = ((l.take k).any (oddB n) || oddB n (l.getD k 0)) := by
  rw [List.take_succ_eq_append_getElem h, List.any_append, List.getD_eq_getElem?_getD, List.getElem?_eq_getElem h]
  simp
theorem oddB_hit (n : Int) (l : List Int) (k : Nat) (h : k < l.length) (hb : oddB n (l.getD k 0) = true) : l.any (oddB n) = true := by
  rw [List.getD_eq_getElem?_getD, List.getElem?_eq_getElem h] at hb
  exact List.any_eq_true.mpr ⟨_, List.getElem_mem h, hb⟩
set_option maxHeartbeats 2000000 in
set_option maxRecDepth 100000 in
theorem oddB_index (n : Int) (B : Nat) (A : Option Addr) (c : Nat) (l : List Int) (w : World) (hc : w.cell? ⟨B, 0, none⟩ = some (.int .i64 n)) (h0 : ReadsOf (Value.int .i64) (0 : Int) w A l.length l) :
    Calls Try.prog 31 #[.slice A l.length c, .func (.func 24) #[] #[.pointer (some ⟨B, 0, none⟩)]] w fun e w' => ∃ r : Int, e = .returned (.int .i64 r) ∧ decide (r ≥ 0) = l.any (oddB n) ∧ w = w' := by
  have H0 := Aside0.mk h0
  have HN := Aside0.mk hc
  have hn := h0.2.1
  clear h0 hc
  go_enter Try.func31, Try.ntmps31
  go_wp2
  go_loopw [5, 8] (fun _ i wr => ∃ k : Nat, k ≤ l.length ∧ i = .int .i64 k ∧ Aside0 ((l.take k).any (oddB n) = false) ∧ w = wr)
    (fun _ i _ => l.length - (intOf i).toNat)
  case atStart => exact ⟨0, Nat.zero_le _, rfl, ⟨rfl⟩, rfl⟩
  case round =>
    obtain ⟨k, hk, rfl, HA, rfl⟩ := hrel
    by_cases hlt : k < l.length
    · obtain ⟨ad, rfl, hcs⟩ := H0.out.2.2 (by omega)
      have hcell := hcs k hlt
      clear hcs
      have HS := Aside0.mk (oddB_succ n l k hlt)
      have HB := Aside0.mk (oddB_hit n l k hlt)
      obtain ⟨x, hx⟩ : ∃ x, l.getD k 0 = x := ⟨_, rfl⟩
      rw [hx] at hcell HS HB
      clear hx
      cases hb : oddB n x with
      | true =>
        go_wp2_with (go_at_call 24; refine (oddB_fn n _ B _ HN.out).mono ?_; rintro e w' ⟨rfl, rfl⟩)
        go_ret
        refine ⟨k, rfl, ?_, rfl⟩
        rw [HB.out hb]
        exact decide_eq_true (by omega)
      | false =>
        go_wp2_with (go_at_call 24; refine (oddB_fn n _ B _ HN.out).mono ?_; rintro e w' ⟨rfl, rfl⟩)
        go_roundw
        case rel => exact ⟨k + 1, by omega, by go_num, ⟨by rw [HS.out, HA.out, hb]; rfl⟩, trivial⟩
        case measure => simp [intOf]; omega
    · obtain rfl : k = l.length := by omega
      go_wp2
      go_ret
      refine ⟨-1, rfl, ?_, rfl⟩
      have := HA.out
      rw [List.take_length] at this
      rw [this]
      rfl
theorem oddB_contains (n : Int) (B : Nat) (A : Option Addr) (c : Nat) (l : List Int) (w : World) (hc : w.cell? ⟨B, 0, none⟩ = some (.int .i64 n)) (h0 : ReadsOf (Value.int .i64) (0 : Int) w A l.length l) :
    Calls Try.prog 25 #[.slice A l.length c, .func (.func 24) #[] #[.pointer (some ⟨B, 0, none⟩)]] w fun e w' => e = .returned (.bool (l.any (oddB n))) ∧ w = w' := by
  have H0 := Aside0.mk h0
  have HN := Aside0.mk hc
  clear h0 hc
  go_enter Try.func25, Try.ntmps25
  go_wp2_with (go_at_call 31; refine (oddB_index n B A c l _ HN.out H0.out).mono ?_; rintro e w' ⟨r, rfl, hr, rfl⟩)
  go_ret
  refine ⟨?_, rfl⟩
  rw [← hr]
  rfl
/-- The first i blocks have pages. -/
def mixL (n i : Nat) (ps : List Pg) : List Blk := (List.range n).map fun (j : Nat) => if j < i then ⟨ps, 0, 0, false⟩ else zB
theorem mixL_length (n i : Nat) (ps : List Pg) : (mixL n i ps).length = n := by simp [mixL]
theorem mixL_at {n i : Nat} {ps : List Pg} {j : Nat} (h : j < n) : (mixL n i ps)[j]? = some (if j < i then ⟨ps, 0, 0, false⟩ else zB) := by simp [mixL, h]
theorem mixL_zero (n : Nat) (ps : List Pg) : mixL n 0 ps = List.replicate n zB := by
  apply List.ext_getElem?
  intro j
  by_cases hj : j < n
  · rw [mixL_at hj, List.getElem?_replicate_of_lt hj, if_neg (by omega)]
  · rw [List.getElem?_eq_none (by rw [mixL_length]; omega), List.getElem?_eq_none (by rw [List.length_replicate]; omega)]
theorem mixL_full (n : Nat) (ps : List Pg) : mixL n n ps = rowL n ps [] := by
  apply List.ext_getElem?
  intro j
  by_cases hj : j < n
  · rw [mixL_at hj, rowL_at hj, if_pos hj]
    simp
  · rw [List.getElem?_eq_none (by rw [mixL_length]; omega), List.getElem?_eq_none (by rw [rowL_length]; omega)]
theorem mixL_next {n i : Nat} {ps : List Pg} (h : i < n) : (mixL n i ps).set i ⟨ps, zB.f1, zB.f2, zB.f3⟩ = mixL n (i + 1) ps := by
  apply List.ext_getElem?
  intro j
  by_cases hj : j < n
  · rw [mixL_at hj]
    by_cases hji : i = j
    · subst hji
      rw [List.getElem?_set_self (by rw [mixL_length]; exact hj), if_pos (by omega)]
      rfl
    · rw [List.getElem?_set_ne hji, mixL_at hj]
      by_cases h2 : j < i
      · rw [if_pos h2, if_pos (by omega)]
      · rw [if_neg h2, if_neg (by omega)]
  · rw [List.getElem?_eq_none (by rw [List.length_set, mixL_length]; omega), List.getElem?_eq_none (by rw [mixL_length]; omega)]
set_option maxHeartbeats 2000000 in
set_option maxRecDepth 100000 in
/-- .. refused. -/
theorem nnew_no (blocks pages : Int) (A : Option Addr) (c : Nat) (bad : List Int) (P : Nat → Prop) (w : World) (hR : ReadsOf (Value.int .i64) (0 : Int) w A bad.length bad) (hno : blocks < 1 ∨ 32 < blocks ∨ pages < 1 ∨ 16 < pages ∨ bad.any (oddB blocks) = true) :
    Calls Try.prog 12 #[.int .i64 blocks, .int .i64 pages, .slice A bad.length c] w fun e w' => Out P w w' e ([], false, false, 0, 1) := by
  have RD := Aside0.mk hR
  have hcase : blocks < 1 ∨ (1 ≤ blocks ∧ 32 < blocks) ∨ ((1 ≤ blocks ∧ blocks ≤ 32) ∧ (pages < 1 ∨ (1 ≤ pages ∧ 16 < pages) ∨ ((1 ≤ pages ∧ pages ≤ 16) ∧ bad.any (oddB blocks) = true))) := by
    by_cases h1 : blocks < 1
    · exact .inl h1
    refine .inr ?_
    by_cases h2 : 32 < blocks
    · exact .inl ⟨by omega, h2⟩
    refine .inr ⟨⟨by omega, by omega⟩, ?_⟩
    by_cases h3 : pages < 1
    · exact .inl h3
    refine .inr ?_
    by_cases h4 : 16 < pages
    · exact .inl ⟨by omega, h4⟩
    refine .inr ⟨⟨by omega, by omega⟩, ?_⟩
    rcases hno with h | h | h | h | h
    · omega
    · omega
    · omega
    · omega
    · exact h
  clear hno hR
  rcases hcase with h | ⟨h, h'⟩ | ⟨⟨h0, h1⟩, h | ⟨h, h'⟩ | ⟨⟨h, h'⟩, hany⟩⟩
  all_goals
    go_enter Try.func12, Try.ntmps12
    go_wp2_with (go_at_call 25; refine (oddB_contains blocks w.heap.size A c bad _ (by go_simp) (Kd.reads_of_C (enc := Value.int .i64) (d := (0 : Int)) (h1 := fun _ => rfl) (Kd.C_alloc (Kd.C_alloc (Kd.C_of_reads (h1 := fun _ => rfl) RD.out) _) _))).mono ?_; rintro e1 w1 ⟨rfl, rfl⟩)
    exact bodyPost_ret (results_ct rfl _ _ (w.heap.size + 1) 27 #[.slice none 0 0, .bool false, .bool false, .int .i64 0] (0, 0) _ rfl (by have := alloc_at (w.alloc (.cells #[.int .i64 blocks] 3)) (.cells #[.slice none 0 0, .bool false, .bool false, .int .i64 0] 27); simpa using this) Try.underlying27 rfl (by kernel_rfl)) rfl ⟨none, 0, rfl, Nat.le_refl _, Kd.F_nil _ _ _, ((Below.refl _ w).alloc (Nat.le_refl _) _).alloc (by simp) _⟩
theorem odd_no {n : Int} {bad : List Int} (h : bad.any (oddB n) = false) {k : Nat} (hk : k < bad.length) : 0 ≤ bad.getD k 0 ∧ bad.getD k 0 < n := by
  have h1 : oddB n (bad.getD k 0) = false := by
    cases h2 : oddB n (bad.getD k 0) with
    | false => rfl
    | true => rw [oddB_hit n bad k hk h2] at h; cases h
  unfold oddB at h1
  simp only [Bool.or_eq_false_iff, decide_eq_false_iff_not] at h1
  omega
/-- make([]Page, n). -/
theorem make_pages (pages : Int) (h0 : 0 ≤ pages) (h1 : pages ≤ 1000) : ∃ mc : Array Value,
    (∀ W : World, (Instr.makeSlice 42 (.int .i64 pages) (.int .i64 pages)).run Try.prog W = .ok (.slice (some ⟨W.heap.size, 0, none⟩) pages.toNat pages.toNat) (W.alloc (.cells mc 46))) ∧
    ∀ (W : World) (base : Nat), base ≤ W.heap.size → kP.R 46 (W.alloc (.cells mc 46)) base (fun k => k = W.heap.size) (.slice (some ⟨W.heap.size, 0, none⟩) pages.toNat pages.toNat) (List.replicate pages.toNat zP) := by
  obtain ⟨i0, hi, hz0, hz1, hz2⟩ := info_parts xinfo46
  refine ⟨madeCells (Value.agg #[.bool false, .string ⟨#[]⟩, .string ⟨#[]⟩]).cells (pages.toNat * 3), fun W => ?_, fun W base hb => ?_⟩
  · have hr := run_make (P := Try.prog) W 42 46 i0 _ Try.underlying42 hi hz0 .i64 .i64 pages pages h0 (Int.le_refl _) (by rw [hz2]; omega) (by omega)
    rw [hz1] at hr
    exact hr
  · have h2 := World.ownsRow_lit (base := base) (e := 46) (size := 3) W (madeCells (Value.agg #[.bool false, .string ⟨#[]⟩, .string ⟨#[]⟩]).cells (pages.toNat * 3)) pages.toNat hb (by simp [maxLen]; omega) (by simp [size_madeCells])
    have hrep := Kd.reps_made (R := kP.M W base (fun _ => False)) (z := .agg #[.bool false, .string ⟨#[]⟩, .string ⟨#[]⟩]) (size := 3) (z0 := zP) rfl (by omega) (k46_mkM W base _ zP) pages.toNat
    refine ⟨fun k hk => ?_, (madeCells (Value.agg #[.bool false, .string ⟨#[]⟩, .string ⟨#[]⟩]).cells (pages.toNat * 3)).toList, ?_, ?_⟩
    · have : W.heap.size = k := by simpa [Value.ownBlock] using hk
      exact this.symm
    · rw [List.length_replicate]; exact h2
    · exact hrep.imp_ (fun p c hp => kP.M_mono (fun k hk => hk.1.elim) (Kd.M_below (kP.M_bound hp) (below_alloc (Below.refl _ _) _)))
set_option maxHeartbeats 2000000 in
set_option maxRecDepth 100000 in
/-- .. made. -/
theorem nnew_ok (blocks pages : Int) (A : Option Addr) (c : Nat) (bad : List Int) (P : Nat → Prop) (w : World) (hR : ReadsOf (Value.int .i64) (0 : Int) w A bad.length bad) (h0 : 1 ≤ blocks) (h1 : blocks ≤ 32) (h2 : 1 ≤ pages) (h3 : pages ≤ 16) (hany : bad.any (oddB blocks) = false) :
    Calls Try.prog 12 #[.int .i64 blocks, .int .i64 pages, .slice A bad.length c] w fun e w' => Out P w w' e (rowL blocks.toNat (List.replicate pages.toNat zP) bad, false, false, 0, 0) := by
  have RD := Aside0.mk hR
  have HA := Aside0.mk (fun k hk => odd_no hany (k := k) hk)
  have hbm := hR.2.1
  obtain ⟨n, hn⟩ : ∃ n : Nat, blocks.toNat = n := ⟨_, rfl⟩
  obtain ⟨ps, hps⟩ : ∃ ps, List.replicate pages.toNat zP = ps := ⟨_, rfl⟩
  have HPS := Aside0.mk hps
  have hpl : ps.length ≤ 16 := by rw [← hps]; simp; omega
  obtain ⟨mc, hmk, hmR⟩ := make_pages pages (by omega) (by omega)
  have hmt : pages.toNat = ps.length := by rw [← hps]; simp
  rw [hps, hmt] at hmR
  have HMR := Aside0.mk hmR
  rw [hmt] at hmk
  have HMT := Aside0.mk hmt
  clear hmt hmR
  have HN := Aside0.mk hn
  have hn1 : 1 ≤ n := by omega
  have hn2 : n ≤ 32 := by omega
  have hnb : (n : Int) = blocks := by omega
  rw [hn, hps]
  have HNB := Aside0.mk hnb
  have HOUT := Aside0.mk (rowL_length n ps bad)
  obtain ⟨res, hres⟩ : ∃ res, rowL n ps bad = res := ⟨_, rfl⟩
  rw [hres] at HOUT ⊢
  have HRES := Aside0.mk hres
  clear hR hn hnb hps hres
  go_enter Try.func12, Try.ntmps12
  go_wp2_with (first
    | (go_at_call 25; refine (oddB_contains blocks w.heap.size A c bad _ (by go_simp) (Kd.reads_of_C (enc := Value.int .i64) (d := (0 : Int)) (h1 := fun _ => rfl) (Kd.C_alloc (Kd.C_alloc (Kd.C_of_reads (h1 := fun _ => rfl) RD.out) _) _))).mono ?_; rintro e1 w1 ⟨rfl, rfl⟩)
    | ((with_reducible refine gate_dst (N := 35) rfl ?_); refine Kd.N_make kB (w0 := (w.alloc (.cells #[.int .i64 blocks] 3)).alloc (.cells #[.slice none 0 0, .bool false, .bool false, .int .i64 0] 27)) (w.heap.size + 2) 44 rfl (N' := 35) rfl 25 (.tmp 34) (.tmp 34) rfl blocks rfl rfl Try.underlying25 (.agg #[(.slice none 0 0), (.int .i64 0), (.int .i64 0), (.bool false)]) 48 xinfo44 rfl (by decide) (by omega) zB (ok := fun k => w.heap.size + 2 ≤ k) (okp := fun _ => False) ?zz (fun _ h => h.elim) ?fr (by omega) ?hl ?HB ?hbs ?_; (case zz => exact k44_mkF _ _ zB (A0 := none) (c0 := 0) (Nat.zero_le _) (Kd.F_nil _ _ _)); (case fr => simp); (case hl => omega); (case HB => exact Below.refl _ _); (case hbs => simp); intro v1 w1 hNN hb1 hg1 hat1; rw [HN.out, ← mixL_zero n ps] at hNN; obtain ⟨g, cap, rfl, hg, hgl, hcap, hRow⟩ := Row.of_N hNN (by rw [mixL_length]; omega) (fun k hk => hk); rw [mixL_length] at hcap; rw [mixL_length]; have HROW := Aside0.mk hRow; have HB1 := Aside0.mk hb1; clear hNN hg1 hat1 hRow hb1))
  have hbw := ((Below.refl _ w).alloc (Nat.le_refl _) (.cells #[.int .i64 blocks] 3)).alloc (by simp) (.cells #[.slice none 0 0, .bool false, .bool false, .int .i64 0] 27)
  have hsz : w.heap.size + 2 ≤ w1.heap.size := by have := HB1.out.size; simpa using this
  have hb : Below w.heap.size w (w1.alloc (.cells #[.slice (some ⟨g, 0, none⟩) n cap, .bool false, .bool false, .int .i64 0] 27)) := (hbw.trans (HB1.out.mono (by omega))).alloc (by omega) _
  have hq : (w1.alloc (.cells #[.slice (some ⟨g, 0, none⟩) n cap, .bool false, .bool false, .int .i64 0] 27)).heap[w.heap.size + 1]? = some (.cells #[.slice none 0 0, .bool false, .bool false, .int .i64 0] 27 (0, 0)) := by
    refine blk_alloc ((HB1.out.block _ (by omega)).trans ?_) _
    have := alloc_at (w.alloc (.cells #[.int .i64 blocks] 3)) (.cells #[.slice none 0 0, .bool false, .bool false, .int .i64 0] 27)
    simpa using this
  have ho := alloc_at w1 (.cells #[.slice (some ⟨g, 0, none⟩) n cap, .bool false, .bool false, .int .i64 0] 27)
  have hr := HROW.out.below (below_alloc (Below.refl _ _) (.cells #[.slice (some ⟨g, 0, none⟩) n cap, .bool false, .bool false, .int .i64 0] 27)) hg
  generalize w1.alloc (.cells #[.slice (some ⟨g, 0, none⟩) n cap, .bool false, .bool false, .int .i64 0] 27) = W1 at hb hq ho hr ⊢
  have R1 := Aside0.mk (show g < w1.heap.size from hgl)
  have R2 := Aside0.mk hsz
  have R3 := Aside0.mk hg
  clear HB1 HROW hbw hgl hg
  generalize w1.heap.size = Bc at *
  obtain ⟨zo0, zo1, zo2, zo3, yo0, yo1, yo2, yo3⟩ := blk4 ho
  obtain ⟨zr0, zr1, zr2, zr3, yr0, yr1, yr2, yr3⟩ := blk4 hq
  have HB := Aside0.mk hb
  have HO := Aside0.mk ho
  have HQ := Aside0.mk hq
  have HROW := Aside0.mk hr
  clear hb ho hq hr hsz
  go_loopw [40] (fun i wr => ∃ k : Nat, k ≤ n ∧ i = .int .i64 k ∧ Aside0 (Below w.heap.size w wr) ∧ Aside0 (wr.heap[Bc]? = some (.cells #[.slice (some ⟨g, 0, none⟩) n cap, .bool false, .bool false, .int .i64 0] 27 (0, 0))) ∧
      Aside0 (wr.heap[w.heap.size + 1]? = some (.cells #[.slice none 0 0, .bool false, .bool false, .int .i64 0] 27 (0, 0))) ∧ Aside0 (Row wr (w.heap.size + 2) g (mixL n k ps)))
    (fun i _ => n - (intOf i).toNat)
  case atStart => exact ⟨0, Nat.zero_le _, rfl, HB, HO, HQ, HROW⟩
  case round =>
    clear HB HO HQ HROW zo0 zo1 zo2 zo3 yo0 yo1 yo2 yo3 zr0 zr1 zr2 zr3 yr0 yr1 yr2 yr3
    obtain ⟨k, hk, rfl, HB, HO, HQ, HROW⟩ := hrel
    have ho := HO.out
    have hq := HQ.out
    obtain ⟨zo0, zo1, zo2, zo3, yo0, yo1, yo2, yo3⟩ := blk4 ho
    obtain ⟨zr0, zr1, zr2, zr3, yr0, yr1, yr2, yr3⟩ := blk4 hq
    clear ho hq
    by_cases hlt : k < n
    · go_upto_region 8 with (fail)
      have hg := R3.out
      obtain ⟨⟨A9, c9, ze0⟩, ze3, ye0, ye3⟩ := (HROW.out.below (below_alloc (Below.refl _ _) (.cells mc 46)) hg).cell (mixL_at (ps := ps) (i := k) hlt)
      rw [if_neg (by omega)] at ze0
      obtain ⟨zp0, zp1, zp2, zp3, yp0, yp1, yp2, yp3⟩ := blk4 (blk_alloc HO.out (.cells mc 46))
      have hkn : (k : Int) < (n : Int) := by omega
      have hsw := HB.out.size
      have hgb := (show g < wr.heap.size from (by obtain ⟨cur, hh, _⟩ := HROW.out; exact blk_lt hh))
      have R4 := Aside0.mk (show w.heap.size + 2 ≤ wr.heap.size by have := R2.out; have := blk_lt HO.out; omega)
      have R5 := Aside0.mk hgb
      clear hsw hgb
      go_region
      go_wp2
      go_roundw
      case rel =>
        have r1 := R1.out
        have r2 := R2.out
        have r3 := R3.out
        have hat := mixL_at (ps := ps) (i := k) hlt
        rw [if_neg (by omega)] at hat
        have h5 := (HROW.out.below (below_alloc (Below.refl _ _) (.cells mc 46)) hg).pages hat (HMR.out wr (w.heap.size + 2) R4.out) (fun k' hk' => ⟨by have h6 : k' = wr.heap.size := hk'; have := R4.out; omega, by have h6 : k' = wr.heap.size := hk'; have := R5.out; omega⟩)
        rw [mixL_next hlt] at h5
        refine ⟨k + 1, by omega, by go_num, ⟨below_drew (below_set (j := k * 4) (v := .slice (some ⟨wr.heap.size, 0, none⟩) ps.length ps.length) (below_alloc HB.out _) (show w.heap.size ≤ g by omega))⟩, ⟨?_⟩, ⟨?_⟩, ⟨h5.below (below_drew (Below.refl _ _)) hg⟩⟩
        · exact (Below.heap_setCell _ ⟨g, k * 4, none⟩ _ Bc (show Bc ≠ g by omega)).trans (blk_alloc HO.out _)
        · exact (Below.heap_setCell _ ⟨g, k * 4, none⟩ _ (w.heap.size + 1) (show w.heap.size + 1 ≠ g by omega)).trans (blk_alloc HQ.out _)
      case measure => simp [intOf]; omega
    · have hke : k = n := by omega
      rw [hke, mixL_full] at HROW
      clear hke
      go_upto_region 11 with (fail)
      clear zo0 zo1 zo2 zo3 yo0 yo1 yo2 yo3 zr0 zr1 zr2 zr3 yr0 yr1 yr2 yr3
      go_loopw [53] (fun i wr => ∃ k : Nat, k ≤ bad.length ∧ i = .int .i64 k ∧ Aside0 (Below w.heap.size w wr) ∧ Aside0 (wr.heap[Bc]? = some (.cells #[.slice (some ⟨g, 0, none⟩) n cap, .bool false, .bool false, .int .i64 0] 27 (0, 0))) ∧
          Aside0 (wr.heap[w.heap.size + 1]? = some (.cells #[.slice none 0 0, .bool false, .bool false, .int .i64 0] 27 (0, 0))) ∧ Aside0 (Row wr (w.heap.size + 2) g (rowL n ps (bad.take k))))
        (fun i _ => bad.length - (intOf i).toNat)
      case atStart => exact ⟨0, Nat.zero_le _, rfl, HB, HO, HQ, by simpa using HROW⟩
      case round =>
        clear HB HO HQ HROW
        obtain ⟨k, hk, rfl, HB, HO, HQ, HROW⟩ := hrel
        have ho := HO.out
        have hq := HQ.out
        obtain ⟨zo0, zo1, zo2, zo3, yo0, yo1, yo2, yo3⟩ := blk4 ho
        obtain ⟨zr0, zr1, zr2, zr3, yr0, yr1, yr2, yr3⟩ := blk4 hq
        clear ho hq
        by_cases hlt : k < bad.length
        · obtain ⟨ad, rfl, hcs⟩ := RD.out.2.2 (by omega)
          have hc1 := pw_cell_below HB.out (hcs k hlt)
          obtain ⟨x0, x1⟩ := HA.out k hlt
          have htk : bad.take k ++ [bad.getD k 0] = bad.take (k + 1) := by
            rw [List.take_succ_eq_append_getElem hlt, List.getD_eq_getElem?_getD, List.getElem?_eq_getElem hlt]
            rfl
          obtain ⟨x, hx⟩ : ∃ x, bad.getD k 0 = x := ⟨_, rfl⟩
          rw [hx] at hc1 x0 x1 htk
          have hxn : x < (n : Int) := by have := HNB.out; omega
          have hat := rowL_at (ps := ps) (S := bad.take k) (show x.toNat < n by omega)
          obtain ⟨_, ze3, _, ye3⟩ := HROW.out.cell hat
          have HX := Aside0.mk hx
          have HTK := Aside0.mk htk
          have HAT := Aside0.mk hat
          clear hcs hx htk hat
          go_wp2
          go_roundw
          case rel =>
            have r2 := R2.out
            have r1 := R1.out
            have r3 := R3.out
            have h5 := HROW.out.bad HAT.out
            have h6 := rowL_bad (n := n) (ps := ps) (S := bad.take k) x0
            rw [h6, HTK.out] at h5
            refine ⟨k + 1, by omega, by go_num, ⟨below_set (j := x.toNat * 4 + 3) (v := .bool true) HB.out (show w.heap.size ≤ g by omega)⟩, ⟨?_⟩, ⟨?_⟩, ⟨h5⟩⟩
            · exact (Below.heap_setCell _ ⟨g, x.toNat * 4 + 3, none⟩ _ Bc (show Bc ≠ g by omega)).trans HO.out
            · exact (Below.heap_setCell _ ⟨g, x.toNat * 4 + 3, none⟩ _ (w.heap.size + 1) (show w.heap.size + 1 ≠ g by omega)).trans HQ.out
          case measure => simp [intOf]; omega
        · have hke : bad.take k = bad := List.take_of_length_le (by omega)
          rw [hke, HRES.out] at HROW
          clear hke
          have r2 := R2.out
          have n1 : ¬ Bc = w.heap.size + 1 := by omega
          have n2 : ¬ w.heap.size + 1 = Bc := by omega
          go_wp2
          have hbw := below4 HB.out (show w.heap.size ≤ w.heap.size + 1 by omega) (.slice (some ⟨g, 0, none⟩) n cap) (.bool false) (.bool false) (.int .i64 0)
          have h5 := HROW.out.step (fun k hk _ => far4 wr (w.heap.size + 1) (.slice (some ⟨g, 0, none⟩) n cap) (.bool false) (.bool false) (.int .i64 0) (show k ≠ w.heap.size + 1 by omega)) R3.out
          have hlr := HOUT.out
          have r3 := R3.out
          have h6 : Kd.F kB _ (fun k => P k ∨ w.heap.size ≤ k) _ _ _ := Kd.F_mono (h5.F (by rw [hlr]; omega) R3.out) (fun k hk => .inr (by omega))
          refine bodyPost_ret (results_ct rfl _ _ (w.heap.size + 1) 27 #[.slice (some ⟨g, 0, none⟩) n cap, .bool false, .bool false, .int .i64 0] (0, 0) _ rfl (put4 HQ.out _ _ _ _) Try.underlying27 rfl (by kernel_rfl)) rfl ⟨some ⟨g, 0, none⟩, cap, ?_, by rw [hlr]; exact hcap, h6, hbw⟩
          rw [hlr]
          rfl
/-- New: a chip, or it is refused. -/
theorem nnew_any (blocks pages : Int) (A : Option Addr) (c : Nat) (bad : List Int) (P : Nat → Prop) (w : World) (hR : ReadsOf (Value.int .i64) (0 : Int) w A bad.length bad) :
    Calls Try.prog 12 #[.int .i64 blocks, .int .i64 pages, .slice A bad.length c] w fun e w' => Out P w w' e (newV blocks pages bad) := by
  unfold newV
  by_cases h : blocks < 1 ∨ 32 < blocks ∨ pages < 1 ∨ 16 < pages ∨ bad.any (oddB blocks) = true
  · rw [if_pos h]
    exact nnew_no blocks pages A c bad P w hR h
  · rw [if_neg h]
    have h4 : bad.any (oddB blocks) = false := by
      cases h5 : bad.any (oddB blocks) with
      | false => rfl
      | true => exact (h (.inr (.inr (.inr (.inr h5))))).elim
    exact nnew_ok blocks pages A c bad P w hR (by omega) (by omega) (by omega) (by omega) h4
end Go.Proofs.Ythjjngfbpoapnaa.X
