/- nand.Program: what it makes of a chip. -/
import Derived.Test.YthjjngfbpoapnaaChipNand
namespace Go.Proofs.Ythjjngfbpoapnaa.X
open Go.RowKit Go.Proofs.Ythjjngfbpoapnaa.PAll Go.Proofs.YthjjngfbpoapnaaW.PrintWords Go.Proofs.YthjjngfbpoapnaaW.PrintLast Go.Proofs.YthjjngfbpoapnaaW.PrintMore
set_option linter.unusedVariables false
set_option linter.unusedSimpArgs false

abbrev rdB (l : List Blk) (b : Int) : Blk := rd_T44 l b
/-- May a page be programmed? -/
def mayP (l : List Blk) (b p kind : Int) : Bool := mayB l b kind && (decide (0 ≤ p) && (decide (p < (rdB l b).f0.length) && decide ((rdB l b).f1 = p)))
/-- A block with a page more. -/
def progB (x : Blk) (p kind : Int) (d t fd ft : ByteArray) : Blk := ⟨x.f0.set p.toNat ⟨true, if kind = 0 then d else fd, if kind = 0 then t else ft⟩, p + 1, x.f2, decide (kind = 1)⟩
/-- A chip behind a program: its blocks, Broken, Off, Ops, the error. -/
def progV (l : List Blk) (br off : Bool) (ops b p : Int) (d t : ByteArray) (kind : Int) (fd ft : ByteArray) : List Blk × Bool × Bool × Int × Int :=
  if off = true then (l, br, off, ops, 52)
  else if mayP l b p kind = true then (l.set b.toNat (progB (rdB l b) p kind d t fd ft), br, decide (kind = 2), wrap64 (ops + 1), if kind = 0 then 0 else if kind = 1 then 53 else 52)
  else (l, true, off, ops, 1)
/-- Few blocks of few pages. -/
def sm (l : List Blk) : Bool := decide (l.length ≤ 1000000) && l.all fun x => decide (x.f0.length ≤ 1000000)
theorem sm_iff {l : List Blk} : sm l = true ↔ l.length ≤ 1000000 ∧ ∀ x ∈ l, x.f0.length ≤ 1000000 := by
  unfold sm
  simp [List.all_eq_true]
theorem mayP_iff {l : List Blk} {b p kind : Int} : mayP l b p kind = true ↔ mayB l b kind = true ∧ 0 ≤ p ∧ p < (rdB l b).f0.length ∧ (rdB l b).f1 = p := by
  unfold mayP
  simp
theorem rdB_at {l : List Blk} {b : Int} (h0 : 0 ≤ b) (h1 : b < l.length) : l[b.toNat]? = some (rdB l b) := by
  show _ = some (l.getD b.toNat zB)
  rw [List.getD_eq_getElem?_getD, List.getElem?_eq_getElem (by omega)]
  rfl
/-- What is said of a chip that is handed back: its blocks can be read. -/
def Out (P : Nat → Prop) (w w' : World) (e : Ending) (r : List Blk × Bool × Bool × Int × Int) : Prop :=
  ∃ (A : Option Addr) (c : Nat), e = .returned (.tuple #[.agg #[.slice A r.1.length c, .bool r.2.1, .bool r.2.2.1, .int .i64 r.2.2.2.1], .int .i64 r.2.2.2.2]) ∧ r.1.length ≤ c ∧ Kd.F kB w' (fun k => P k ∨ w.heap.size ≤ k) A r.1.length r.1 ∧ Below w.heap.size w w'
theorem Held.out {P : Nat → Prop} {w W : World} {g g2 : Nat} {l : List Blk} {b : Nat} {A2 : Option Addr} {c2 : Nat} {ps : List Pg} {nx er : Int} {bad : Bool} {ok : Nat → Prop} (h : Held W ok g g2 l b A2 c2 ps nx er bad) (hg : w.heap.size ≤ g) (hg2 : w.heap.size ≤ g2) (hok : ∀ k, ok k → P k ∨ w.heap.size ≤ k) :
    Kd.F kB W (fun k => P k ∨ w.heap.size ≤ k) (some ⟨g, 0, none⟩) (l.set b ⟨ps, nx, er, bad⟩).length (l.set b ⟨ps, nx, er, bad⟩) :=
  Kd.F_mono h.F (fun k hk => by
    rcases hk with hk | hk | hk
    · exact hok k hk
    · exact .inr (by omega)
    · exact .inr (by omega))
theorem blk3 {W : World} {g t : Nat} {a b c : Value} (h : W.heap[g]? = some (.cells #[a, b, c] t (0, 0))) :
    W.cell? ⟨g, 0, none⟩ = some a ∧ W.cell? ⟨g, 1, none⟩ = some b ∧ W.cell? ⟨g, 2, none⟩ = some c ∧ W.frozen? ⟨g, 0, none⟩ = false ∧ W.frozen? ⟨g, 1, none⟩ = false ∧ W.frozen? ⟨g, 2, none⟩ = false :=
  ⟨(blk_cell h 0).trans rfl, (blk_cell h 1).trans rfl, (blk_cell h 2).trans rfl, blk_frozen h 0, blk_frozen h 1, blk_frozen h 2⟩
theorem refused_no (A : Option Addr) (c : Nat) (l : List Blk) (br off : Bool) (ops b kind n : Int) (fd ft : ByteArray) (w : World) (hC : Kd.C kB w A l.length l) (e : Int) (he : refE l off b kind = e) :
    Calls Try.prog 28 #[.agg #[.slice A l.length c, .bool br, .bool off, .int .i64 ops], .int .i64 b, .agg #[.int .i64 kind, .string fd, .string ft, .int .i64 n]] w fun e1 w' =>
      e1 = .returned (.tuple #[.agg #[.slice A l.length c, .bool (if e = 1 then true else br), .bool off, .int .i64 ops], .int .i64 e]) ∧ Below w.heap.size w w' := by
  subst he
  exact refused_any A c l br off ops b kind n fd ft w hC

/-- The four rows that Program (and Erase) hold: the chip, the page, the fate, the answer. -/
structure Four (W : World) (B : Nat) (v : Value) (br off : Bool) (ops : Int) (pw : Bool) (pd pt : ByteArray) (kind : Int) (fd ft : ByteArray) (n : Int) (c0 c1 c2 c3 : Value) : Prop where
  chip : W.heap[B]? = some (.cells #[v, .bool br, .bool off, .int .i64 ops] 27 (0, 0))
  page : W.heap[B + 1]? = some (.cells #[.bool pw, .string pd, .string pt] 46 (0, 0))
  fate : W.heap[B + 1 + 1]? = some (.cells #[.int .i64 kind, .string fd, .string ft, .int .i64 n] 41 (0, 0))
  ret : W.heap[B + 1 + 1 + 1]? = some (.cells #[c0, c1, c2, c3] 27 (0, 0))
theorem Four.below {W W1 : World} {B : Nat} {v : Value} {br off : Bool} {ops : Int} {pw : Bool} {pd pt : ByteArray} {kind : Int} {fd ft : ByteArray} {n : Int} {c0 c1 c2 c3 : Value} (h : Four W B v br off ops pw pd pt kind fd ft n c0 c1 c2 c3) (hb : Below W.heap.size W W1) : Four W1 B v br off ops pw pd pt kind fd ft n c0 c1 c2 c3 :=
  ⟨(hb.block _ (blk_lt h.chip)).trans h.chip, (hb.block _ (blk_lt h.page)).trans h.page, (hb.block _ (blk_lt h.fate)).trans h.fate, (hb.block _ (blk_lt h.ret)).trans h.ret⟩
theorem Four.put {W : World} {B : Nat} {v : Value} {br off : Bool} {ops : Int} {pw : Bool} {pd pt : ByteArray} {kind : Int} {fd ft : ByteArray} {n : Int} {c0 c1 c2 c3 : Value} (h : Four W B v br off ops pw pd pt kind fd ft n c0 c1 c2 c3) (v' : Value) (br' off' : Bool) (ops' : Int) :
    Four ((((W.setCell ⟨B, 0, none⟩ v').setCell ⟨B, 1, none⟩ (.bool br')).setCell ⟨B, 2, none⟩ (.bool off')).setCell ⟨B, 3, none⟩ (.int .i64 ops')) B v' br' off' ops' pw pd pt kind fd ft n c0 c1 c2 c3 :=
  ⟨put4 h.chip _ _ _ _, (far4 _ _ _ _ _ _ (by omega)).trans h.page, (far4 _ _ _ _ _ _ (by omega)).trans h.fate, (far4 _ _ _ _ _ _ (by omega)).trans h.ret⟩
theorem Four.putR {W : World} {B : Nat} {v : Value} {br off : Bool} {ops : Int} {pw : Bool} {pd pt : ByteArray} {kind : Int} {fd ft : ByteArray} {n : Int} {c0 c1 c2 c3 : Value} (h : Four W B v br off ops pw pd pt kind fd ft n c0 c1 c2 c3) (d0 d1 d2 d3 : Value) :
    Four ((((W.setCell ⟨B + 1 + 1 + 1, 0, none⟩ d0).setCell ⟨B + 1 + 1 + 1, 1, none⟩ d1).setCell ⟨B + 1 + 1 + 1, 2, none⟩ d2).setCell ⟨B + 1 + 1 + 1, 3, none⟩ d3) B v br off ops pw pd pt kind fd ft n d0 d1 d2 d3 :=
  ⟨(far4 _ _ _ _ _ _ (by omega)).trans h.chip, (far4 _ _ _ _ _ _ (by omega)).trans h.page, (far4 _ _ _ _ _ _ (by omega)).trans h.fate, put4 h.ret _ _ _ _⟩
theorem Four.brk {W : World} {B : Nat} {v : Value} {br off : Bool} {ops : Int} {pw : Bool} {pd pt : ByteArray} {kind : Int} {fd ft : ByteArray} {n : Int} {c0 c1 c2 c3 : Value} (h : Four W B v br off ops pw pd pt kind fd ft n c0 c1 c2 c3) (x : Bool) :
    Four (W.setCell ⟨B, 1, none⟩ (.bool x)) B v x off ops pw pd pt kind fd ft n c0 c1 c2 c3 :=
  ⟨blk_put h.chip 1 (.bool x) rfl, (Below.heap_setCell _ _ _ _ (by simp)).trans h.page, (Below.heap_setCell _ _ _ _ (show B + 1 + 1 ≠ B by omega)).trans h.fate, (Below.heap_setCell _ _ _ _ (show B + 1 + 1 + 1 ≠ B by omega)).trans h.ret⟩
theorem Four.cut {W : World} {B : Nat} {v : Value} {br off : Bool} {ops : Int} {pw : Bool} {pd pt : ByteArray} {kind : Int} {fd ft : ByteArray} {n : Int} {c0 c1 c2 c3 : Value} (h : Four W B v br off ops pw pd pt kind fd ft n c0 c1 c2 c3) (x : Bool) :
    Four (W.setCell ⟨B, 2, none⟩ (.bool x)) B v br x ops pw pd pt kind fd ft n c0 c1 c2 c3 :=
  ⟨blk_put h.chip 2 (.bool x) rfl, (Below.heap_setCell _ _ _ _ (by simp)).trans h.page, (Below.heap_setCell _ _ _ _ (show B + 1 + 1 ≠ B by omega)).trans h.fate, (Below.heap_setCell _ _ _ _ (show B + 1 + 1 + 1 ≠ B by omega)).trans h.ret⟩
/-- A world in which the chip's row, or another one, has been written. -/
theorem Four.far {W W1 : World} {B : Nat} {v : Value} {br off : Bool} {ops : Int} {pw : Bool} {pd pt : ByteArray} {kind : Int} {fd ft : ByteArray} {n : Int} {c0 c1 c2 c3 : Value} (h : Four W B v br off ops pw pd pt kind fd ft n c0 c1 c2 c3) (hb : ∀ k, B ≤ k → k ≤ B + 1 + 1 + 1 → W1.heap[k]? = W.heap[k]?) : Four W1 B v br off ops pw pd pt kind fd ft n c0 c1 c2 c3 :=
  ⟨(hb _ (by omega) (by omega)).trans h.chip, (hb _ (by omega) (by omega)).trans h.page, (hb _ (by omega) (by omega)).trans h.fate, (hb _ (by omega) (by omega)).trans h.ret⟩
theorem four_start (w : World) (v : Value) (br off : Bool) (ops : Int) (pw : Bool) (pd pt : ByteArray) (kind : Int) (fd ft : ByteArray) (n : Int) : ∃ W0 : World,
    (((w.alloc (.cells #[v, .bool br, .bool off, .int .i64 ops] 27)).alloc (.cells #[.bool pw, .string pd, .string pt] 46)).alloc (.cells #[.int .i64 kind, .string fd, .string ft, .int .i64 n] 41)).alloc (.cells #[.slice none 0 0, .bool false, .bool false, .int .i64 0] 27) = W0 ∧
    Four W0 w.heap.size v br off ops pw pd pt kind fd ft n (.slice none 0 0) (.bool false) (.bool false) (.int .i64 0) ∧ Below w.heap.size w W0 ∧ W0.heap.size = w.heap.size + 4 := by
  refine ⟨_, rfl, ⟨?_, ?_, ?_, ?_⟩, (((((Below.refl _ w).alloc (Nat.le_refl _) _).alloc (by simp) _).alloc (by simp; omega) _).alloc (by simp; omega) _), by simp⟩
  · exact blk_alloc (blk_alloc (blk_alloc (alloc_at _ _) _) _) _
  · exact blk_alloc (blk_alloc (by have := alloc_at (w.alloc (.cells #[v, .bool br, .bool off, .int .i64 ops] 27)) (.cells #[.bool pw, .string pd, .string pt] 46); simpa using this) _) _
  · exact blk_alloc (by have := alloc_at ((w.alloc (.cells #[v, .bool br, .bool off, .int .i64 ops] 27)).alloc (.cells #[.bool pw, .string pd, .string pt] 46)) (.cells #[.int .i64 kind, .string fd, .string ft, .int .i64 n] 41); simpa using this) _
  · have := alloc_at (((w.alloc (.cells #[v, .bool br, .bool off, .int .i64 ops] 27)).alloc (.cells #[.bool pw, .string pd, .string pt] 46)).alloc (.cells #[.int .i64 kind, .string fd, .string ft, .int .i64 n] 41)) (.cells #[.slice none 0 0, .bool false, .bool false, .int .i64 0] 27)
    simpa using this

set_option maxHeartbeats 4000000 in
set_option maxRecDepth 100000 in
/-- .. refused. -/
theorem nprog_refused (A : Option Addr) (c : Nat) (l : List Blk) (br off : Bool) (ops b p : Int) (pw : Bool) (pd pt : ByteArray) (kind : Int) (fd ft : ByteArray) (n : Int) (P : Nat → Prop) (w : World) (hF0 : Kd.F kB w P A l.length l) (hc : l.length ≤ c) (e : Int) (he : refE l off b kind = e) (hne : (e != 0) = true) :
    Calls Try.prog 19 #[.agg #[.slice A l.length c, .bool br, .bool off, .int .i64 ops], .int .i64 b, .int .i64 p, .agg #[.bool pw, .string pd, .string pt], .agg #[.int .i64 kind, .string fd, .string ft, .int .i64 n]] w fun e1 w' =>
      Out P w w' e1 (l, if e = 1 then true else br, off, ops, e) := by
  have hC := Kd.F_now hF0
  obtain ⟨W0, hW, hF, hB, hS⟩ := four_start w (.slice A l.length c) br off ops pw pd pt kind fd ft n
  have RF := Aside0.mk (refused_no A c l br off ops b kind n fd ft W0 (Kd.C_below hC hB) e he)
  obtain ⟨br', hbr⟩ : ∃ br', (if e = 1 then true else br) = br' := ⟨_, rfl⟩
  rw [hbr] at RF ⊢
  have HF0 := Aside0.mk hF0
  have HW := Aside0.mk hW
  have HF := Aside0.mk hF
  have HB := Aside0.mk hB
  have HS := Aside0.mk hS
  clear hC hF0 hW hF hB hS he hbr
  go_enter Try.func19, Try.ntmps19
  go_wp2_with (first
    | (go_at_call 28; rw [HW.out]; refine RF.out.mono ?_; rintro e1 w1 ⟨rfl, hb⟩; have hf := HF.out.below hb; obtain ⟨z0, z1, z2, z3, y0, y1, y2, y3⟩ := blk4 hf.chip; obtain ⟨z4, z5, z6, y4, y5, y6⟩ := blk3 hf.page; obtain ⟨z7, z8, z9, z10, y7, y8, y9, y10⟩ := blk4 hf.fate; obtain ⟨z11, z12, z13, z14, y11, y12, y13, y14⟩ := blk4 hf.ret; have HB1 := Aside0.mk hb; have HF1 := Aside0.mk hf; clear hf hb))
  have hf2 := (HF1.out.put (.slice A l.length c) br' off ops).putR (.slice A l.length c) (.bool br') (.bool off) (.int .i64 ops)
  have hbw := below4 (below4 (below_step HB.out HB1.out) (Nat.le_refl w.heap.size) (.slice A l.length c) (.bool br') (.bool off) (.int .i64 ops)) (show w.heap.size ≤ w.heap.size + 1 + 1 + 1 by omega) (.slice A l.length c) (.bool br') (.bool off) (.int .i64 ops)
  exact bodyPost_ret (results_ct rfl _ _ (w.heap.size + 1 + 1 + 1) 27 #[.slice A l.length c, .bool br', .bool off, .int .i64 ops] (0, 0) _ rfl hf2.ret Try.underlying27 rfl (by kernel_rfl)) rfl ⟨A, c, rfl, hc, Kd.F_mono (Kd.F_below HF0.out hbw) (fun _ hk => .inl hk), hbw⟩
set_option maxHeartbeats 2000000 in
set_option maxRecDepth 100000 in
/-- .. of a page that may not be. -/
theorem nprog_wrong (A : Option Addr) (c : Nat) (l : List Blk) (br : Bool) (ops b p : Int) (pw : Bool) (pd pt : ByteArray) (kind : Int) (fd ft : ByteArray) (n : Int) (P : Nat → Prop) (w : World) (hF0 : Kd.F kB w P A l.length l) (hc : l.length ≤ c) (hm : mayB l b kind = true) (hpl : (rdB l b).f0.length ≤ 9223372036854775807) (hw : mayP l b p kind = false) :
    Calls Try.prog 19 #[.agg #[.slice A l.length c, .bool br, .bool false, .int .i64 ops], .int .i64 b, .int .i64 p, .agg #[.bool pw, .string pd, .string pt], .agg #[.int .i64 kind, .string fd, .string ft, .int .i64 n]] w fun e1 w' =>
      Out P w w' e1 (l, true, false, ops, 1) := by
  have hcase : p < 0 ∨ (0 ≤ p ∧ ((rdB l b).f0.length : Int) ≤ p) ∨ (0 ≤ p ∧ p < (rdB l b).f0.length ∧ ((rdB l b).f1 != p) = true) := by
    unfold mayP at hw
    rw [hm] at hw
    simp only [Bool.true_and, Bool.and_eq_false_iff, decide_eq_false_iff_not] at hw
    by_cases q0 : p < 0
    · exact .inl q0
    · by_cases q1 : ((rdB l b).f0.length : Int) ≤ p
      · exact .inr (.inl ⟨by omega, q1⟩)
      · refine .inr (.inr ⟨by omega, by omega, bne_iff_ne.2 (fun h => ?_)⟩)
        rcases hw with hw | hw | hw
        · omega
        · omega
        · exact hw h
  clear hw
  have hC := Kd.F_now hF0
  obtain ⟨h0, h1, h2, h3, h4⟩ := may_iff.1 hm
  obtain ⟨W0, hW, hF, hB, hS⟩ := four_start w (.slice A l.length c) br false ops pw pd pt kind fd ft n
  have RF := Aside0.mk (refused_no A c l br false ops b kind n fd ft W0 (Kd.C_below hC hB) 0 (ref_ok hm))
  rw [if_neg (show ¬ (0 : Int) = 1 by omega)] at RF
  have AT := Aside0.mk (fun (W : World) (hb : Below w.heap.size w W) => at_T44 (Kd.C_below hC hb) b h0 (by omega))
  have hlm : l.length ≤ 9223372036854775807 := hC.2.1
  have hpm : (rdB l b).f0.length ≤ 9223372036854775807 := hpl
  have HF0 := Aside0.mk hF0
  have HW := Aside0.mk hW
  have HF := Aside0.mk hF
  have HB := Aside0.mk hB
  have HS := Aside0.mk hS
  clear hC hF0 hW hF hB hS hm h2 h3 h4
  rcases hcase with h | ⟨h, h'⟩ | ⟨h, h', h''⟩
  all_goals
    go_enter Try.func19, Try.ntmps19
    go_upto_region 4 with (first
      | (go_at_call 28; rw [HW.out]; refine RF.out.mono ?_; rintro e1 w1 ⟨rfl, hb⟩; have hf := HF.out.below hb; obtain ⟨za0, za1, za2, za3, ya0, ya1, ya2, ya3⟩ := blk4 hf.chip; obtain ⟨zb0, zb1, zb2, yb0, yb1, yb2⟩ := blk3 hf.page; obtain ⟨zc0, zc1, zc2, zc3, yc0, yc1, yc2, yc3⟩ := blk4 hf.fate; obtain ⟨zd0, zd1, zd2, zd3, yd0, yd1, yd2, yd3⟩ := blk4 hf.ret; have HB1 := Aside0.mk hb; have HF1 := Aside0.mk hf; clear hf hb))
    have hf := HF1.out.put (.slice A l.length c) br false ops
    have hb := below4 (below_step HB.out HB1.out) (Nat.le_refl w.heap.size) (.slice A l.length c) (.bool br) (.bool false) (.int .i64 ops)
    have hs : W0.heap.size ≤ ((((w1.setCell ⟨w.heap.size, 0, none⟩ (.slice A l.length c)).setCell ⟨w.heap.size, 1, none⟩ (.bool br)).setCell ⟨w.heap.size, 2, none⟩ (.bool false)).setCell ⟨w.heap.size, 3, none⟩ (.int .i64 ops)).heap.size := by have := HB1.out.size; simpa using this
    clear za0 za1 za2 za3 ya0 ya1 ya2 ya3 zb0 zb1 zb2 yb0 yb1 yb2 zc0 zc1 zc2 zc3 yc0 yc1 yc2 yc3 zd0 zd1 zd2 zd3 yd0 yd1 yd2 yd3
    generalize ((((w1.setCell ⟨w.heap.size, 0, none⟩ (.slice A l.length c)).setCell ⟨w.heap.size, 1, none⟩ (.bool br)).setCell ⟨w.heap.size, 2, none⟩ (.bool false)).setCell ⟨w.heap.size, 3, none⟩ (.int .i64 ops)) = W1 at hf hb hs ⊢
    obtain ⟨za0, za1, za2, za3, ya0, ya1, ya2, ya3⟩ := blk4 hf.chip; obtain ⟨zb0, zb1, zb2, yb0, yb1, yb2⟩ := blk3 hf.page; obtain ⟨zc0, zc1, zc2, zc3, yc0, yc1, yc2, yc3⟩ := blk4 hf.fate; obtain ⟨zd0, zd1, zd2, zd3, yd0, yd1, yd2, yd3⟩ := blk4 hf.ret
    obtain ⟨ad, A0, c0, rfl, z15, z16, z17, z18, _, _⟩ := AT.out W1 hb
    have HB2 := Aside0.mk hb
    have HF2 := Aside0.mk hf
    have HS2 := Aside0.mk hs
    clear hb hf hs HB1 HF1
    go_upto_if 47 with (fail)
    go_wp2
    have hf2 := (HF2.out.brk true).putR (.slice (some ad) l.length c) (.bool true) (.bool false) (.int .i64 ops)
    have hbw := below4 (below_set (j := 1) (v := .bool true) HB2.out (Nat.le_refl w.heap.size)) (show w.heap.size ≤ w.heap.size + 1 + 1 + 1 by omega) (.slice (some ad) l.length c) (.bool true) (.bool false) (.int .i64 ops)
    exact bodyPost_ret (results_ct rfl _ _ (w.heap.size + 1 + 1 + 1) 27 #[.slice (some ad) l.length c, .bool true, .bool false, .int .i64 ops] (0, 0) _ rfl hf2.ret Try.underlying27 rfl (by kernel_rfl)) rfl ⟨some ad, c, rfl, hc, Kd.F_mono (Kd.F_below HF0.out hbw) (fun _ hk => .inl hk), hbw⟩
set_option maxHeartbeats 2000000 in
set_option maxRecDepth 100000 in
/-- .. done. -/
theorem nprog_ok (A : Option Addr) (c : Nat) (l : List Blk) (br : Bool) (ops b p : Int) (pw : Bool) (pd pt : ByteArray) (kind : Int) (fd ft : ByteArray) (n : Int) (P : Nat → Prop) (w : World) (hF0 : Kd.F kB w P A l.length l) (hc : l.length ≤ c) (hs : sm l = true) (hw : mayP l b p kind = true) :
    Calls Try.prog 19 #[.agg #[.slice A l.length c, .bool br, .bool false, .int .i64 ops], .int .i64 b, .int .i64 p, .agg #[.bool pw, .string pd, .string pt], .agg #[.int .i64 kind, .string fd, .string ft, .int .i64 n]] w fun e1 w' =>
      Out P w w' e1 (l.set b.toNat (progB (rdB l b) p kind pd pt fd ft), br, decide (kind = 2), wrap64 (ops + 1), if kind = 0 then 0 else if kind = 1 then 53 else 52) := by
  obtain ⟨hm, hp0, hp1, hnx⟩ := mayP_iff.1 hw
  obtain ⟨hl, hall⟩ := sm_iff.1 hs
  have hC := Kd.F_now hF0
  obtain ⟨h0, h1, h2, h3, h4⟩ := may_iff.1 hm
  obtain ⟨W0, hW, hF, hB, hS⟩ := four_start w (.slice A l.length c) br false ops pw pd pt kind fd ft n
  have RF := Aside0.mk (refused_no A c l br false ops b kind n fd ft W0 (Kd.C_below hC hB) 0 (ref_ok hm))
  rw [if_neg (show ¬ (0 : Int) = 1 by omega)] at RF
  have AT := Aside0.mk (fun (W : World) (hb : Below w.heap.size w W) => at_T44 (Kd.C_below hC hb) b h0 (by omega))
  have hlm : l.length ≤ 9223372036854775807 := hC.2.1
  have hpm : (rdB l b).f0.length ≤ 9223372036854775807 := (by have := hall _ (List.mem_of_getElem? (rdB_at (may_iff.1 hm).1 (may_iff.1 hm).2.1)); omega)
  have HF0 := Aside0.mk hF0
  have HW := Aside0.mk hW
  have HF := Aside0.mk hF
  have HB := Aside0.mk hB
  have HS := Aside0.mk hS
  have hx := rdB_at h0 h1
  have hp6 := hall _ (List.mem_of_getElem? hx)
  obtain ⟨x, hxx⟩ : ∃ x, rdB l b = x := ⟨_, rfl⟩
  rw [hxx] at hx hp6 hp1 hnx hpm ⊢
  have HX := Aside0.mk hx
  have H4 := Aside0.mk h4
  have HXX := Aside0.mk (show rd_T44 l b = x from hxx)
  have e1 : (x.f1 != p) = false := by rw [hnx]; simp
  clear hC hF0 hW hF hB hS hm h4 hw hs hall hx hxx
  go_enter Try.func19, Try.ntmps19
  go_upto_region 4 with (first
    | (go_at_call 28; rw [HW.out]; refine RF.out.mono ?_; rintro e1 w1 ⟨rfl, hb⟩; have hf := HF.out.below hb; obtain ⟨za0, za1, za2, za3, ya0, ya1, ya2, ya3⟩ := blk4 hf.chip; obtain ⟨zb0, zb1, zb2, yb0, yb1, yb2⟩ := blk3 hf.page; obtain ⟨zc0, zc1, zc2, zc3, yc0, yc1, yc2, yc3⟩ := blk4 hf.fate; obtain ⟨zd0, zd1, zd2, zd3, yd0, yd1, yd2, yd3⟩ := blk4 hf.ret; have HB1 := Aside0.mk hb; have HF1 := Aside0.mk hf; clear hf hb))
  have hf := HF1.out.put (.slice A l.length c) br false ops
  have hb := below4 (below_step HB.out HB1.out) (Nat.le_refl w.heap.size) (.slice A l.length c) (.bool br) (.bool false) (.int .i64 ops)
  have hs : W0.heap.size ≤ ((((w1.setCell ⟨w.heap.size, 0, none⟩ (.slice A l.length c)).setCell ⟨w.heap.size, 1, none⟩ (.bool br)).setCell ⟨w.heap.size, 2, none⟩ (.bool false)).setCell ⟨w.heap.size, 3, none⟩ (.int .i64 ops)).heap.size := by have := HB1.out.size; simpa using this
  clear za0 za1 za2 za3 ya0 ya1 ya2 ya3 zb0 zb1 zb2 yb0 yb1 yb2 zc0 zc1 zc2 zc3 yc0 yc1 yc2 yc3 zd0 zd1 zd2 zd3 yd0 yd1 yd2 yd3
  generalize ((((w1.setCell ⟨w.heap.size, 0, none⟩ (.slice A l.length c)).setCell ⟨w.heap.size, 1, none⟩ (.bool br)).setCell ⟨w.heap.size, 2, none⟩ (.bool false)).setCell ⟨w.heap.size, 3, none⟩ (.int .i64 ops)) = W1 at hf hb hs ⊢
  obtain ⟨za0, za1, za2, za3, ya0, ya1, ya2, ya3⟩ := blk4 hf.chip; obtain ⟨zb0, zb1, zb2, yb0, yb1, yb2⟩ := blk3 hf.page; obtain ⟨zc0, zc1, zc2, zc3, yc0, yc1, yc2, yc3⟩ := blk4 hf.fate; obtain ⟨zd0, zd1, zd2, zd3, yd0, yd1, yd2, yd3⟩ := blk4 hf.ret
  obtain ⟨ad, A0, c0, rfl, z15, z16, z17, z18, _, _⟩ := AT.out W1 hb
  rw [HXX.out] at z15 z16 z17 z18
  have HB2 := Aside0.mk hb
  have HF2 := Aside0.mk hf
  have HS2 := Aside0.mk hs
  clear hb hf hs HB1 HF1
  go_upto_if 47 with (fail)
  go_upto_region 8 with (first
    | (go_at_call 29; refine (changed_any (some ad) c l br false ops b x P w W1 HF0.out HB2.out hl h0 HX.out hp6).mono ?_; rintro e2 w2 ⟨g, g2, cap, A2, c2, rfl, hH, hg, hg2, hcap, hb2⟩; have HF3 := Aside0.mk (HF2.out.below hb2); have HB3 := Aside0.mk (below_step HB2.out hb2); have HH3 := Aside0.mk hH; have HG := Aside0.mk hg; have HG2 := Aside0.mk hg2; clear za0 za1 za2 za3 ya0 ya1 ya2 ya3 zb0 zb1 zb2 yb0 yb1 yb2 zc0 zc1 zc2 zc3 yc0 yc1 yc2 yc3 zd0 zd1 zd2 zd3 yd0 yd1 yd2 yd3 hH hb2 hg hg2 z15 z16 z17 z18; have hf := HF3.out; obtain ⟨za0, za1, za2, za3, ya0, ya1, ya2, ya3⟩ := blk4 hf.chip; obtain ⟨zb0, zb1, zb2, yb0, yb1, yb2⟩ := blk3 hf.page; obtain ⟨zc0, zc1, zc2, zc3, yc0, yc1, yc2, yc3⟩ := blk4 hf.fate; obtain ⟨zd0, zd1, zd2, zd3, yd0, yd1, yd2, yd3⟩ := blk4 hf.ret; clear hf))
  have hs0 := HS.out
  have hs2 := HS2.out
  have hg1 := HG.out
  have hg2 := HG2.out
  have hf := HF3.out.put (.slice (some ⟨g, 0, none⟩) l.length cap) br false (wrap64 (ops + 1))
  have hh := HH3.out.step (fun k hk _ => far4 w2 w.heap.size (.slice (some ⟨g, 0, none⟩) l.length cap) (.bool br) (.bool false) (.int .i64 (wrap64 (ops + 1))) (show k ≠ w.heap.size by omega))
  have hb := below4 HB3.out (Nat.le_refl w.heap.size) (.slice (some ⟨g, 0, none⟩) l.length cap) (.bool br) (.bool false) (.int .i64 (wrap64 (ops + 1)))
  clear za0 za1 za2 za3 ya0 ya1 ya2 ya3 zb0 zb1 zb2 yb0 yb1 yb2 zc0 zc1 zc2 zc3 yc0 yc1 yc2 yc3 zd0 zd1 zd2 zd3 yd0 yd1 yd2 yd3
  generalize ((((w2.setCell ⟨w.heap.size, 0, none⟩ (.slice (some ⟨g, 0, none⟩) l.length cap)).setCell ⟨w.heap.size, 1, none⟩ (.bool br)).setCell ⟨w.heap.size, 2, none⟩ (.bool false)).setCell ⟨w.heap.size, 3, none⟩ (.int .i64 (wrap64 (ops + 1)))) = W3 at hf hh hb ⊢
  obtain ⟨za0, za1, za2, za3, ya0, ya1, ya2, ya3⟩ := blk4 hf.chip; obtain ⟨zb0, zb1, zb2, yb0, yb1, yb2⟩ := blk3 hf.page; obtain ⟨zc0, zc1, zc2, zc3, yc0, yc1, yc2, yc3⟩ := blk4 hf.fate; obtain ⟨zd0, zd1, zd2, zd3, yd0, yd1, yd2, yd3⟩ := blk4 hf.ret
  obtain ⟨ze0, ze1, ze2, ze3, ye0, ye1, ye2, ye3⟩ := hh.cells
  rw [hnx] at ze1
  have HF4 := Aside0.mk hf
  have HH4 := Aside0.mk hh
  have HB4 := Aside0.mk hb
  clear hf hh hb HF3 HH3 HB3 hs0 hs2 hg1 hg2
  go_upto_region 9 with (fail)
  have hs0 := HS.out
  have hs2 := HS2.out
  have hg1 := HG.out
  have hg2 := HG2.out
  have hf := HF4.out.far (fun k h1 h2 => Below.heap_setCell W3 ⟨g, b.toNat * 4 + 1, none⟩ (.int .i64 (p + 1)) k (show k ≠ g by omega))
  have hh := HH4.out.next (p + 1)
  have hb := below_set (g := g) (j := b.toNat * 4 + 1) (v := .int .i64 (p + 1)) HB4.out (by omega)
  obtain ⟨q, hq⟩ : ∃ q, x.f0[p.toNat]? = some q := ⟨_, List.getElem?_eq_getElem (by omega)⟩
  clear ze0 ze1 ze2 ze3 ye0 ye1 ye2 ye3 za0 za1 za2 za3 ya0 ya1 ya2 ya3 zb0 zb1 zb2 yb0 yb1 yb2 zc0 zc1 zc2 zc3 yc0 yc1 yc2 yc3 zd0 zd1 zd2 zd3 yd0 yd1 yd2 yd3
  generalize W3.setCell ⟨g, b.toNat * 4 + 1, none⟩ (.int .i64 (p + 1)) = W4 at hf hh hb ⊢
  obtain ⟨rfl, zg0, zg1, zg2, yg0, yg1, yg2⟩ := hh.page hq
  obtain ⟨za0, za1, za2, za3, ya0, ya1, ya2, ya3⟩ := blk4 hf.chip; obtain ⟨zb0, zb1, zb2, yb0, yb1, yb2⟩ := blk3 hf.page; obtain ⟨zc0, zc1, zc2, zc3, yc0, yc1, yc2, yc3⟩ := blk4 hf.fate; obtain ⟨zd0, zd1, zd2, zd3, yd0, yd1, yd2, yd3⟩ := blk4 hf.ret
  obtain ⟨ze0, ze1, ze2, ze3, ye0, ye1, ye2, ye3⟩ := hh.cells
  have HQ := Aside0.mk hq
  have HF5 := Aside0.mk hf
  have HH5 := Aside0.mk hh
  have HB5 := Aside0.mk hb
  clear hf hh hb HF4 HH4 HB4 hs0 hs2 hg1 hg2 hq
  go_region
  have hs0 := HS.out
  have hs2 := HS2.out
  have hg1 := HG.out
  have hg2 := HG2.out
  have hf := HF5.out.far (W1 := (((W4.setCell ⟨g2, p.toNat * 3, none⟩ (.bool true)).setCell ⟨g2, p.toNat * 3 + 1, none⟩ (.string fd)).setCell ⟨g2, p.toNat * 3 + 2, none⟩ (.string ft)).drew) (fun k h1 h2 => by
    show ((((W4.setCell ⟨g2, p.toNat * 3, none⟩ (.bool true)).setCell ⟨g2, p.toNat * 3 + 1, none⟩ (.string fd)).setCell ⟨g2, p.toNat * 3 + 2, none⟩ (.string ft))).heap[k]? = _
    rw [Below.heap_setCell _ _ _ _ (show k ≠ g2 by omega), Below.heap_setCell _ _ _ _ (show k ≠ g2 by omega), Below.heap_setCell _ _ _ _ (show k ≠ g2 by omega)])
  have hh := (HH5.out.pset (j := p.toNat) (by omega) ⟨true, fd, ft⟩).drew
  have hb := below_drew (below_set (g := g2) (j := p.toNat * 3 + 2) (v := .string ft) (below_set (g := g2) (j := p.toNat * 3 + 1) (v := .string fd) (below_set (g := g2) (j := p.toNat * 3) (v := .bool true) HB5.out (by omega)) (by omega)) (by omega))
  clear zg0 zg1 zg2 yg0 yg1 yg2 ze0 ze1 ze2 ze3 ye0 ye1 ye2 ye3 za0 za1 za2 za3 ya0 ya1 ya2 ya3 zb0 zb1 zb2 yb0 yb1 yb2 zc0 zc1 zc2 zc3 yc0 yc1 yc2 yc3 zd0 zd1 zd2 zd3 yd0 yd1 yd2 yd3
  generalize (((W4.setCell ⟨g2, p.toNat * 3, none⟩ (.bool true)).setCell ⟨g2, p.toNat * 3 + 1, none⟩ (.string fd)).setCell ⟨g2, p.toNat * 3 + 2, none⟩ (.string ft)).drew = W5 at hf hh hb ⊢
  obtain ⟨_, zg0, zg1, zg2, yg0, yg1, yg2⟩ := hh.page (j := p.toNat) (p := ⟨true, fd, ft⟩) (List.getElem?_set_self (by omega))
  obtain ⟨za0, za1, za2, za3, ya0, ya1, ya2, ya3⟩ := blk4 hf.chip; obtain ⟨zb0, zb1, zb2, yb0, yb1, yb2⟩ := blk3 hf.page; obtain ⟨zc0, zc1, zc2, zc3, yc0, yc1, yc2, yc3⟩ := blk4 hf.fate; obtain ⟨zd0, zd1, zd2, zd3, yd0, yd1, yd2, yd3⟩ := blk4 hf.ret
  obtain ⟨ze0, ze1, ze2, ze3, ye0, ye1, ye2, ye3⟩ := hh.cells
  rw [List.length_set] at ze0
  have HF6 := Aside0.mk hf
  have HH6 := Aside0.mk hh
  have HB6 := Aside0.mk hb
  clear hf hh hb HF5 HH5 HB5
  have n1 : ¬ g = w.heap.size := by omega
  have n2 : ¬ w.heap.size = g := by omega
  have n3 : ¬ g = w.heap.size + 1 + 1 + 1 := by omega
  have n4 : ¬ w.heap.size + 1 + 1 + 1 = g := by omega
  have m1 : w.heap.size ≤ g := by omega
  have m2 : w.heap.size ≤ g2 := by omega
  have m4 : w.heap.size + 4 ≤ g := by omega
  have m5 : w.heap.size + 4 ≤ g2 := by omega
  have M1 := Aside0.mk m1
  have M2 := Aside0.mk m2
  have M4 := Aside0.mk m4
  have M5 := Aside0.mk m5
  clear hs0 hs2 hg1 hg2 m1 m2 m4 m5
  have hk : kind = 1 ∨ kind = 2 ∨ kind = 0 := by omega
  rcases hk with rfl | rfl | rfl
  · go_wp2
    have m1 := M1.out
    have hf2 := (HF6.out.far (fun k h1 h2 => Below.heap_setCell W5 ⟨g, b.toNat * 4 + 3, none⟩ (.bool true) k (show k ≠ g by have := M4.out; omega))).putR (.slice (some ⟨g, 0, none⟩) l.length cap) (.bool br) (.bool false) (.int .i64 (wrap64 (ops + 1)))
    have hh := (HH6.out.bad_ true).step (fun k hk _ => far4 _ (w.heap.size + 1 + 1 + 1) (.slice (some ⟨g, 0, none⟩) l.length cap) (.bool br) (.bool false) (.int .i64 (wrap64 (ops + 1))) (show k ≠ w.heap.size + 1 + 1 + 1 by have := M4.out; have := M5.out; omega))
    have hbw := below4 (below_set (j := b.toNat * 4 + 3) (v := .bool true) HB6.out m1) (show w.heap.size ≤ w.heap.size + 1 + 1 + 1 by omega) (.slice (some ⟨g, 0, none⟩) l.length cap) (.bool br) (.bool false) (.int .i64 (wrap64 (ops + 1)))
    refine bodyPost_ret (results_ct rfl _ _ (w.heap.size + 1 + 1 + 1) 27 #[.slice (some ⟨g, 0, none⟩) l.length cap, .bool br, .bool false, .int .i64 (wrap64 (ops + 1))] (0, 0) _ rfl hf2.ret Try.underlying27 rfl (by kernel_rfl)) rfl ⟨some ⟨g, 0, none⟩, cap, ?_, by rw [List.length_set]; exact hcap, hh.out (by have := M4.out; omega) (by have := M5.out; omega) (fun _ hk => .inl hk.1), hbw⟩
    rw [List.length_set]
    rfl
  · go_wp2
    have hf2 := (HF6.out.cut true).putR (.slice (some ⟨g, 0, none⟩) l.length cap) (.bool br) (.bool true) (.int .i64 (wrap64 (ops + 1)))
    have hh := (HH6.out.far (p := ⟨w.heap.size, 2, none⟩) (fun k hk => by have := hk.2; show k ≠ w.heap.size; omega) n2 (show ¬ w.heap.size = g2 by have := M5.out; omega) (.bool true)).step (fun k hk _ => far4 _ (w.heap.size + 1 + 1 + 1) (.slice (some ⟨g, 0, none⟩) l.length cap) (.bool br) (.bool true) (.int .i64 (wrap64 (ops + 1))) (show k ≠ w.heap.size + 1 + 1 + 1 by have := M4.out; have := M5.out; omega))
    have hbw := below4 (below_set (j := 2) (v := .bool true) HB6.out (Nat.le_refl w.heap.size)) (show w.heap.size ≤ w.heap.size + 1 + 1 + 1 by omega) (.slice (some ⟨g, 0, none⟩) l.length cap) (.bool br) (.bool true) (.int .i64 (wrap64 (ops + 1)))
    have h3 : x.f3 = false := by rw [← HXX.out]; exact H4.out
    rw [h3] at hh
    refine bodyPost_ret (results_ct rfl _ _ (w.heap.size + 1 + 1 + 1) 27 #[.slice (some ⟨g, 0, none⟩) l.length cap, .bool br, .bool true, .int .i64 (wrap64 (ops + 1))] (0, 0) _ rfl hf2.ret Try.underlying27 rfl (by kernel_rfl)) rfl ⟨some ⟨g, 0, none⟩, cap, ?_, by rw [List.length_set]; exact hcap, hh.out (by have := M4.out; omega) (by have := M5.out; omega) (fun _ hk => .inl hk.1), hbw⟩
    rw [List.length_set]
    rfl
  · go_upto_region 17 with (fail)
    go_region
    have hf := HF6.out.far (W1 := ((W5.setCell ⟨g2, p.toNat * 3 + 1, none⟩ (.string pd)).setCell ⟨g2, p.toNat * 3 + 2, none⟩ (.string pt)).drew) (fun k h1 h2 => by
      show ((W5.setCell ⟨g2, p.toNat * 3 + 1, none⟩ (.string pd)).setCell ⟨g2, p.toNat * 3 + 2, none⟩ (.string pt)).heap[k]? = _
      have := M5.out
      rw [Below.heap_setCell _ _ _ _ (show k ≠ g2 by omega), Below.heap_setCell _ _ _ _ (show k ≠ g2 by omega)])
    have hh0 := HH6.out.pput (j := p.toNat) (p := ⟨true, fd, ft⟩) (List.getElem?_set_self (by omega)) 1 (by omega) (.string pd) ⟨true, pd, ft⟩ (by simp) (by simp) (by simp)
    rw [List.set_set] at hh0
    have hh1 := hh0.pput (j := p.toNat) (p := ⟨true, pd, ft⟩) (List.getElem?_set_self (by omega)) 2 (by omega) (.string pt) ⟨true, pd, pt⟩ (by simp) (by simp) (by simp)
    rw [List.set_set] at hh1
    have hh := hh1.drew
    have hb := below_drew (below_set (g := g2) (j := p.toNat * 3 + 2) (v := .string pt) (below_set (g := g2) (j := p.toNat * 3 + 1) (v := .string pd) HB6.out M2.out) M2.out)
    clear hh0 hh1 zg0 zg1 zg2 yg0 yg1 yg2 ze0 ze1 ze2 ze3 ye0 ye1 ye2 ye3 za0 za1 za2 za3 ya0 ya1 ya2 ya3 zb0 zb1 zb2 yb0 yb1 yb2 zc0 zc1 zc2 zc3 yc0 yc1 yc2 yc3 zd0 zd1 zd2 zd3 yd0 yd1 yd2 yd3
    generalize ((W5.setCell ⟨g2, p.toNat * 3 + 1, none⟩ (.string pd)).setCell ⟨g2, p.toNat * 3 + 2, none⟩ (.string pt)).drew = W6 at hf hh hb ⊢
    obtain ⟨za0, za1, za2, za3, ya0, ya1, ya2, ya3⟩ := blk4 hf.chip; obtain ⟨zb0, zb1, zb2, yb0, yb1, yb2⟩ := blk3 hf.page; obtain ⟨zc0, zc1, zc2, zc3, yc0, yc1, yc2, yc3⟩ := blk4 hf.fate; obtain ⟨zd0, zd1, zd2, zd3, yd0, yd1, yd2, yd3⟩ := blk4 hf.ret
    have HF7 := Aside0.mk hf
    have HH7 := Aside0.mk hh
    have HB7 := Aside0.mk hb
    clear hf hh hb
    go_wp2
    have hf2 := HF7.out.putR (.slice (some ⟨g, 0, none⟩) l.length cap) (.bool br) (.bool false) (.int .i64 (wrap64 (ops + 1)))
    have hh := HH7.out.step (fun k hk _ => far4 _ (w.heap.size + 1 + 1 + 1) (.slice (some ⟨g, 0, none⟩) l.length cap) (.bool br) (.bool false) (.int .i64 (wrap64 (ops + 1))) (show k ≠ w.heap.size + 1 + 1 + 1 by have := M4.out; have := M5.out; omega))
    have hbw := below4 HB7.out (show w.heap.size ≤ w.heap.size + 1 + 1 + 1 by omega) (.slice (some ⟨g, 0, none⟩) l.length cap) (.bool br) (.bool false) (.int .i64 (wrap64 (ops + 1)))
    have h3 : x.f3 = false := by rw [← HXX.out]; exact H4.out
    rw [h3] at hh
    refine bodyPost_ret (results_ct rfl _ _ (w.heap.size + 1 + 1 + 1) 27 #[.slice (some ⟨g, 0, none⟩) l.length cap, .bool br, .bool false, .int .i64 (wrap64 (ops + 1))] (0, 0) _ rfl hf2.ret Try.underlying27 rfl (by kernel_rfl)) rfl ⟨some ⟨g, 0, none⟩, cap, ?_, by rw [List.length_set]; exact hcap, hh.out (by have := M4.out; omega) (by have := M5.out; omega) (fun _ hk => .inl hk.1), hbw⟩
    rw [List.length_set]
    rfl
end Go.Proofs.Ythjjngfbpoapnaa.X
