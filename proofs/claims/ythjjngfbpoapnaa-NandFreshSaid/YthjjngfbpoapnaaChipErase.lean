/- nand.Erase: what it makes of a chip. -/
import Derived.Test.YthjjngfbpoapnaaChipProg
import Derived.Lib.SliceRun
import Derived.Laws.IdiomCopy
namespace Go.Proofs.Ythjjngfbpoapnaa.X
open Go.RowKit Go.Proofs.Ythjjngfbpoapnaa.PAll Go.Proofs.YthjjngfbpoapnaaW.PrintWords Go.Proofs.YthjjngfbpoapnaaW.PrintLast Go.Proofs.YthjjngfbpoapnaaW.PrintMore
set_option linter.unusedVariables false
set_option linter.unusedSimpArgs false
attribute [local go_sem] max2_int min2_int max_two min_two max_three min_three max_four min_four

/-- n, but from 0 to k. -/
def upTo (n k : Int) : Int := if k < (if n < 0 then 0 else n) then k else (if n < 0 then 0 else n)
/-- How many pages an erase makes free. -/
def eraN (x : Blk) (kind n : Int) : Int := if kind = 2 then upTo n x.f0.length else x.f0.length
/-- A block erased (well, or cut). -/
def eraB (x : Blk) (kind n : Int) : Blk := ⟨List.replicate (eraN x kind n).toNat zP ++ x.f0.drop (eraN x kind n).toNat, if kind = 2 then (x.f0.length : Int) else 0, wrap64 (x.f2 + 1), x.f3⟩
/-- A chip behind an erase: its blocks, Broken, Off, Ops, the error. -/
def eraV (l : List Blk) (br off : Bool) (ops b kind n : Int) : List Blk × Bool × Bool × Int × Int :=
  if off = true then (l, br, off, ops, 52)
  else if mayB l b kind = true then
    if kind = 1 then (l.set b.toNat ⟨(rdB l b).f0, (rdB l b).f1, (rdB l b).f2, true⟩, br, false, wrap64 (ops + 1), 53)
    else (l.set b.toNat (eraB (rdB l b) kind n), br, decide (kind = 2), wrap64 (ops + 1), if kind = 2 then 52 else 0)
  else (l, true, off, ops, 1)
theorem upTo_facts {n k : Int} (hk : 0 ≤ k) : 0 ≤ upTo n k ∧ upTo n k ≤ k := by
  unfold upTo
  split <;> split <;> omega

/-- The cells of m erased pages. -/
def zc : Nat → List Value
  | 0 => []
  | m + 1 => zc m ++ [.bool false, .string ⟨#[]⟩, .string ⟨#[]⟩]
theorem zc_length : ∀ m, (zc m).length = m * 3
  | 0 => rfl
  | m + 1 => by rw [zc, List.length_append, zc_length m]; simp; omega
theorem zc_one : ∀ m, ∀ v ∈ zc m, v.oneCell' = true
  | 0, v, h => by simp [zc] at h
  | m + 1, v, h => by
    rw [zc, List.mem_append] at h
    rcases h with h | h
    · exact zc_one m v h
    · simp at h
      rcases h with rfl | rfl | rfl <;> rfl
theorem zeroCells_zc : ∀ m, (Builtin.zeroCells #[.bool false, .string ⟨#[]⟩, .string ⟨#[]⟩] m).toList = zc m := by
  intro m
  have h : ∀ m, (List.range (m * 3)).map (fun i => (#[Value.bool false, .string ⟨#[]⟩, .string ⟨#[]⟩] : Array Value)[i % 3]!) = zc m := by
    intro m
    induction m with
    | zero => rfl
    | succ m ih =>
      rw [show (m + 1) * 3 = m * 3 + 1 + 1 + 1 by omega, List.range_succ, List.range_succ, List.range_succ, List.map_append, List.map_append, List.map_append, ih, zc]
      have a0 : m * 3 % 3 = 0 := by omega
      have a1 : (m * 3 + 1) % 3 = 1 := by omega
      have a2 : (m * 3 + 1 + 1) % 3 = 2 := by omega
      simp [a0, a1, a2]
  rw [← h m]
  simp [Builtin.zeroCells]
theorem setCells_append (b : Nat) : ∀ (u v : List Value) (o : Nat) (w : World), w.setCells b o (u ++ v) = (w.setCells b o u).setCells b (o + u.length) v
  | [], v, o, w => by simp [World.setCells]
  | x :: u, v, o, w => by
    rw [List.cons_append, World.setCells, World.setCells, setCells_append b u v (o + 1)]
    simp [Nat.add_assoc, Nat.add_comm 1]
theorem below_setCells {w : World} {b : Nat} (hb : w.heap.size ≤ b) : ∀ (u : List Value) (o : Nat) (W : World), Below w.heap.size w W → Below w.heap.size w (W.setCells b o u)
  | [], _, _, h => h
  | _ :: u, o, _, h => below_setCells hb u (o + 1) _ (below_set h hb)
theorem heap_setCells {b k : Nat} (hk : k ≠ b) : ∀ (u : List Value) (o : Nat) (W : World), (W.setCells b o u).heap[k]? = W.heap[k]?
  | [], _, _ => rfl
  | x :: u, o, W => (heap_setCells hk u (o + 1) _).trans (Below.heap_setCell W ⟨b, o, none⟩ x k hk)
section
variable {W : World} {ok : Nat → Prop} {g g2 : Nat} {l : List Blk} {b : Nat} {A2 : Option Addr} {c2 : Nat} {ps : List Pg} {nx er : Int} {bad : Bool}
theorem Held.clear (h : Held W ok g g2 l b A2 c2 ps nx er bad) : ∀ m, m ≤ ps.length → Held (W.setCells g2 0 (zc m)) ok g g2 l b A2 c2 (List.replicate m zP ++ ps.drop m) nx er bad
  | 0, _ => by simpa [zc, World.setCells] using h
  | m + 1, hm => by
    have h1 := Held.clear h m (by omega)
    have h2 := h1.pset (j := m) (by simp; omega) zP
    have e1 : (List.replicate m zP ++ ps.drop m).set m zP = List.replicate (m + 1) zP ++ ps.drop (m + 1) := by
      rw [List.set_append_right _ _ (by simp)]
      rw [List.length_replicate, Nat.sub_self, List.drop_eq_getElem_cons (by omega), List.set_cons_zero, List.replicate_succ', List.append_assoc]
      rfl
    rw [e1] at h2
    rw [zc, setCells_append, zc_length, Nat.zero_add]
    exact h2
theorem Held.clear_run (h : Held W ok g g2 l b A2 c2 ps nx er bad) (ty : TypeId) (m c : Nat) (hm : m ≤ ps.length) :
    (Builtin.clear_ #[42] ty #[.slice A2 m c]).run Try.prog W = .ok (.tuple #[]) (W.setCells g2 0 (zc m)) := by
  rcases Nat.eq_zero_or_pos m with rfl | hp
  · cases A2 <;> simp [Builtin.clear_, run_underlying Try.underlying42, World.setCells, zc]
  · obtain ⟨rfl, cur, hh, hc⟩ := h.pages (by omega)
    have hst := run_storeCells_cells (P := Try.prog) g2 0 (zc m) 0 W (fun j hj => by
      rw [zc_length] at hj
      have hj3 : j / 3 < ps.length := by omega
      obtain ⟨d0, d1, d2⟩ := hc (j / 3) _ (List.getElem?_eq_getElem hj3)
      simp only [Nat.zero_add, Nat.add_zero]
      rw [blk_cell hh]
      have hjj : j = j / 3 * 3 ∨ j = j / 3 * 3 + 1 ∨ j = j / 3 * 3 + 2 := by omega
      rcases hjj with e | e | e
      · rw [e, d0]; rfl
      · rw [e, d1]; rfl
      · rw [e, d2]; rfl) (fun j _ => blk_frozen hh _) (zc_one m)
    simp only [Nat.add_zero] at hst
    have hv : ∀ w, (zeroValue 46).run Try.prog w = .ok (.agg #[.bool false, .string ⟨#[]⟩, .string ⟨#[]⟩]) w := fun _ => by kernel_rfl
    have hz : (Builtin.zeroCells (Value.agg #[.bool false, .string ⟨#[]⟩, .string ⟨#[]⟩]).cells m).toList = zc m := zeroCells_zc m
    obtain ⟨m, rfl⟩ : ∃ k, m = k + 1 := ⟨m - 1, by omega⟩
    simp [Builtin.clear_, run_underlying Try.underlying42, hv, hz, hst]
theorem Held.cut_run (h : Held W ok g g2 l b A2 c2 ps nx er bad) (m : Int) (h0 : 0 ≤ m) (h1 : m ≤ ps.length) : ∀ W : World,
    (Instr.slice 42 (.slice A2 ps.length c2) none (some (.int .i64 m)) none).run Try.prog W = .ok (.slice A2 m.toNat c2) W := by
  obtain ⟨i0, hi0, _, hsz, _⟩ := info_parts xinfo46
  exact cut_to (P := Try.prog) 42 46 .i64 Try.underlying42 hi0 A2 ps.length c2 m h0 h1 h.plen
end

/-- The three rows that Erase holds: the chip, the fate, the answer. -/
structure Three (W : World) (B : Nat) (v : Value) (br off : Bool) (ops kind : Int) (fd ft : ByteArray) (n : Int) (c0 c1 c2 c3 : Value) : Prop where
  chip : W.heap[B]? = some (.cells #[v, .bool br, .bool off, .int .i64 ops] 27 (0, 0))
  fate : W.heap[B + 1]? = some (.cells #[.int .i64 kind, .string fd, .string ft, .int .i64 n] 41 (0, 0))
  ret : W.heap[B + 1 + 1]? = some (.cells #[c0, c1, c2, c3] 27 (0, 0))
theorem Three.below {W1 : World} {W : World} {B : Nat} {v : Value} {br off : Bool} {ops kind : Int} {fd ft : ByteArray} {n : Int} {c0 c1 c2 c3 : Value} (h : Three W B v br off ops kind fd ft n c0 c1 c2 c3) (hb : Below W.heap.size W W1) : Three W1 B v br off ops kind fd ft n c0 c1 c2 c3 :=
  ⟨(hb.block _ (blk_lt h.chip)).trans h.chip, (hb.block _ (blk_lt h.fate)).trans h.fate, (hb.block _ (blk_lt h.ret)).trans h.ret⟩
theorem Three.put {W : World} {B : Nat} {v : Value} {br off : Bool} {ops kind : Int} {fd ft : ByteArray} {n : Int} {c0 c1 c2 c3 : Value} (h : Three W B v br off ops kind fd ft n c0 c1 c2 c3) (v' : Value) (br' off' : Bool) (ops' : Int) : Three ((((W.setCell ⟨B, 0, none⟩ v').setCell ⟨B, 1, none⟩ (.bool br')).setCell ⟨B, 2, none⟩ (.bool off')).setCell ⟨B, 3, none⟩ (.int .i64 ops')) B v' br' off' ops' kind fd ft n c0 c1 c2 c3 :=
  ⟨put4 h.chip _ _ _ _, (far4 _ _ _ _ _ _ (by omega)).trans h.fate, (far4 _ _ _ _ _ _ (by omega)).trans h.ret⟩
theorem Three.putR {W : World} {B : Nat} {v : Value} {br off : Bool} {ops kind : Int} {fd ft : ByteArray} {n : Int} {c0 c1 c2 c3 : Value} (h : Three W B v br off ops kind fd ft n c0 c1 c2 c3) (d0 d1 d2 d3 : Value) : Three ((((W.setCell ⟨B + 1 + 1, 0, none⟩ d0).setCell ⟨B + 1 + 1, 1, none⟩ d1).setCell ⟨B + 1 + 1, 2, none⟩ d2).setCell ⟨B + 1 + 1, 3, none⟩ d3) B v br off ops kind fd ft n d0 d1 d2 d3 :=
  ⟨(far4 _ _ _ _ _ _ (by omega)).trans h.chip, (far4 _ _ _ _ _ _ (by omega)).trans h.fate, put4 h.ret _ _ _ _⟩
theorem Three.cut {W : World} {B : Nat} {v : Value} {br off : Bool} {ops kind : Int} {fd ft : ByteArray} {n : Int} {c0 c1 c2 c3 : Value} (h : Three W B v br off ops kind fd ft n c0 c1 c2 c3) (x : Bool) : Three (W.setCell ⟨B, 2, none⟩ (.bool x)) B v br x ops kind fd ft n c0 c1 c2 c3 :=
  ⟨blk_put h.chip 2 (.bool x) rfl, (Below.heap_setCell _ _ _ _ (by simp)).trans h.fate, (Below.heap_setCell _ _ _ _ (show B + 1 + 1 ≠ B by omega)).trans h.ret⟩
theorem Three.far {W1 : World} {W : World} {B : Nat} {v : Value} {br off : Bool} {ops kind : Int} {fd ft : ByteArray} {n : Int} {c0 c1 c2 c3 : Value} (h : Three W B v br off ops kind fd ft n c0 c1 c2 c3) (hb : ∀ k, B ≤ k → k ≤ B + 1 + 1 → W1.heap[k]? = W.heap[k]?) : Three W1 B v br off ops kind fd ft n c0 c1 c2 c3 :=
  ⟨(hb _ (by omega) (by omega)).trans h.chip, (hb _ (by omega) (by omega)).trans h.fate, (hb _ (by omega) (by omega)).trans h.ret⟩
theorem three_start (w : World) (v : Value) (br off : Bool) (ops kind : Int) (fd ft : ByteArray) (n : Int) : ∃ W0 : World,
    ((w.alloc (.cells #[v, .bool br, .bool off, .int .i64 ops] 27)).alloc (.cells #[.int .i64 kind, .string fd, .string ft, .int .i64 n] 41)).alloc (.cells #[.slice none 0 0, .bool false, .bool false, .int .i64 0] 27) = W0 ∧
    Three W0 w.heap.size v br off ops kind fd ft n (.slice none 0 0) (.bool false) (.bool false) (.int .i64 0) ∧ Below w.heap.size w W0 ∧ W0.heap.size = w.heap.size + 3 := by
  refine ⟨_, rfl, ⟨?_, ?_, ?_⟩, ((((Below.refl _ w).alloc (Nat.le_refl _) _).alloc (by simp) _).alloc (by simp; omega) _), by simp⟩
  · exact blk_alloc (blk_alloc (alloc_at _ _) _) _
  · exact blk_alloc (by have := alloc_at (w.alloc (.cells #[v, .bool br, .bool off, .int .i64 ops] 27)) (.cells #[.int .i64 kind, .string fd, .string ft, .int .i64 n] 41); simpa using this) _
  · have := alloc_at ((w.alloc (.cells #[v, .bool br, .bool off, .int .i64 ops] 27)).alloc (.cells #[.int .i64 kind, .string fd, .string ft, .int .i64 n] 41)) (.cells #[.slice none 0 0, .bool false, .bool false, .int .i64 0] 27)
    simpa using this

set_option maxHeartbeats 2000000 in
set_option maxRecDepth 100000 in
/-- .. refused. -/
theorem nerase_refused (A : Option Addr) (c : Nat) (l : List Blk) (br off : Bool) (ops b kind : Int) (fd ft : ByteArray) (n : Int) (P : Nat → Prop) (w : World) (hF0 : Kd.F kB w P A l.length l) (hc : l.length ≤ c) (e : Int) (he : refE l off b kind = e) (hne : (e != 0) = true) :
    Calls Try.prog 17 #[.agg #[.slice A l.length c, .bool br, .bool off, .int .i64 ops], .int .i64 b, .agg #[.int .i64 kind, .string fd, .string ft, .int .i64 n]] w fun e1 w' =>
      Out P w w' e1 (l, if e = 1 then true else br, off, ops, e) := by
  have hC := Kd.F_now hF0
  obtain ⟨W0, hW, hF, hB, hS⟩ := three_start w (.slice A l.length c) br off ops kind fd ft n
  have RF := Aside0.mk (refused_no A c l br off ops b kind n fd ft W0 (Kd.C_below hC hB) e he)
  obtain ⟨br', hbr⟩ : ∃ br', (if e = 1 then true else br) = br' := ⟨_, rfl⟩
  rw [hbr] at RF ⊢
  have HF0 := Aside0.mk hF0
  have HW := Aside0.mk hW
  have HF := Aside0.mk hF
  have HB := Aside0.mk hB
  have HS := Aside0.mk hS
  clear hC hF0 hW hF hB hS he hbr
  go_enter Try.func17, Try.ntmps17
  go_wp2_with (first
    | (go_at_call 28; rw [HW.out]; refine RF.out.mono ?_; rintro e1 w1 ⟨rfl, hb⟩; have hf := HF.out.below hb; obtain ⟨za0, za1, za2, za3, ya0, ya1, ya2, ya3⟩ := blk4 hf.chip; obtain ⟨zc0, zc1, zc2, zc3, yc0, yc1, yc2, yc3⟩ := blk4 hf.fate; obtain ⟨zd0, zd1, zd2, zd3, yd0, yd1, yd2, yd3⟩ := blk4 hf.ret; have HB1 := Aside0.mk hb; have HF1 := Aside0.mk hf; clear hf hb))
  have hf2 := (HF1.out.put (.slice A l.length c) br' off ops).putR (.slice A l.length c) (.bool br') (.bool off) (.int .i64 ops)
  have hbw := below4 (below4 (below_step HB.out HB1.out) (Nat.le_refl w.heap.size) (.slice A l.length c) (.bool br') (.bool off) (.int .i64 ops)) (show w.heap.size ≤ w.heap.size + 1 + 1 by omega) (.slice A l.length c) (.bool br') (.bool off) (.int .i64 ops)
  exact bodyPost_ret (results_ct rfl _ _ (w.heap.size + 1 + 1) 27 #[.slice A l.length c, .bool br', .bool off, .int .i64 ops] (0, 0) _ rfl hf2.ret Try.underlying27 rfl (by kernel_rfl)) rfl ⟨A, c, rfl, hc, Kd.F_mono (Kd.F_below HF0.out hbw) (fun _ hk => .inl hk), hbw⟩
set_option maxHeartbeats 2000000 in
set_option maxRecDepth 100000 in
/-- .. that fails. -/
theorem nerase_fail (A : Option Addr) (c : Nat) (l : List Blk) (br : Bool) (ops b kind : Int) (fd ft : ByteArray) (n : Int) (P : Nat → Prop) (w : World) (hF0 : Kd.F kB w P A l.length l) (hc : l.length ≤ c) (hs : sm l = true) (hm : mayB l b kind = true) (hk : kind = 1) :
    Calls Try.prog 17 #[.agg #[.slice A l.length c, .bool br, .bool false, .int .i64 ops], .int .i64 b, .agg #[.int .i64 kind, .string fd, .string ft, .int .i64 n]] w fun e1 w' =>
      Out P w w' e1 (l.set b.toNat ⟨(rdB l b).f0, (rdB l b).f1, (rdB l b).f2, true⟩, br, false, wrap64 (ops + 1), 53) := by
  obtain ⟨hl, hall⟩ := sm_iff.1 hs
  obtain ⟨h0, h1, h2, h3, h4⟩ := may_iff.1 hm
  have hC := Kd.F_now hF0
  obtain ⟨W0, hW, hF, hB, hS⟩ := three_start w (.slice A l.length c) br false ops kind fd ft n
  have RF := Aside0.mk (refused_no A c l br false ops b kind n fd ft W0 (Kd.C_below hC hB) 0 (ref_ok hm))
  rw [if_neg (show ¬ (0 : Int) = 1 by omega)] at RF
  have HF0 := Aside0.mk hF0
  have HW := Aside0.mk hW
  have HF := Aside0.mk hF
  have HB := Aside0.mk hB
  have HS := Aside0.mk hS
  have hx := rdB_at h0 h1
  have hp6 := hall _ (List.mem_of_getElem? hx)
  obtain ⟨x, hxx⟩ : ∃ x, rdB l b = x := ⟨_, rfl⟩
  rw [hxx] at hx hp6 ⊢
  have HX := Aside0.mk hx
  clear hC hF0 hW hF hB hS hm h4 hs hall hx hxx
  subst hk
  go_enter Try.func17, Try.ntmps17
  go_upto_region 4 with (first
    | (go_at_call 28; rw [HW.out]; refine RF.out.mono ?_; rintro e1 w1 ⟨rfl, hb⟩; have hf := HF.out.below hb; obtain ⟨za0, za1, za2, za3, ya0, ya1, ya2, ya3⟩ := blk4 hf.chip; obtain ⟨zc0, zc1, zc2, zc3, yc0, yc1, yc2, yc3⟩ := blk4 hf.fate; obtain ⟨zd0, zd1, zd2, zd3, yd0, yd1, yd2, yd3⟩ := blk4 hf.ret; have HB1 := Aside0.mk hb; have HF1 := Aside0.mk hf; clear hf hb))
  have hf := HF1.out.put (.slice A l.length c) br false ops
  have hb := below4 (below_step HB.out HB1.out) (Nat.le_refl w.heap.size) (.slice A l.length c) (.bool br) (.bool false) (.int .i64 ops)
  have hs : W0.heap.size ≤ ((((w1.setCell ⟨w.heap.size, 0, none⟩ (.slice A l.length c)).setCell ⟨w.heap.size, 1, none⟩ (.bool br)).setCell ⟨w.heap.size, 2, none⟩ (.bool false)).setCell ⟨w.heap.size, 3, none⟩ (.int .i64 ops)).heap.size := by have := HB1.out.size; simpa using this
  clear za0 za1 za2 za3 ya0 ya1 ya2 ya3 zc0 zc1 zc2 zc3 yc0 yc1 yc2 yc3 zd0 zd1 zd2 zd3 yd0 yd1 yd2 yd3
  generalize ((((w1.setCell ⟨w.heap.size, 0, none⟩ (.slice A l.length c)).setCell ⟨w.heap.size, 1, none⟩ (.bool br)).setCell ⟨w.heap.size, 2, none⟩ (.bool false)).setCell ⟨w.heap.size, 3, none⟩ (.int .i64 ops)) = W1 at hf hb hs ⊢
  obtain ⟨za0, za1, za2, za3, ya0, ya1, ya2, ya3⟩ := blk4 hf.chip; obtain ⟨zc0, zc1, zc2, zc3, yc0, yc1, yc2, yc3⟩ := blk4 hf.fate; obtain ⟨zd0, zd1, zd2, zd3, yd0, yd1, yd2, yd3⟩ := blk4 hf.ret
  have HB2 := Aside0.mk hb
  have HF2 := Aside0.mk hf
  have HS2 := Aside0.mk hs
  clear hb hf hs HB1 HF1
  go_upto_region 5 with (first
    | (go_at_call 29; refine (changed_any A c l br false ops b x P w W1 HF0.out HB2.out hl h0 HX.out hp6).mono ?_; rintro e2 w2 ⟨g, g2, cap, A2, c2, rfl, hH, hg, hg2, hcap, hb2⟩; have HF3 := Aside0.mk (HF2.out.below hb2); have HB3 := Aside0.mk (below_step HB2.out hb2); have HH3 := Aside0.mk hH; have HG := Aside0.mk hg; have HG2 := Aside0.mk hg2; clear za0 za1 za2 za3 ya0 ya1 ya2 ya3 zc0 zc1 zc2 zc3 yc0 yc1 yc2 yc3 zd0 zd1 zd2 zd3 yd0 yd1 yd2 yd3 hH hb2 hg hg2; have hf := HF3.out; obtain ⟨za0, za1, za2, za3, ya0, ya1, ya2, ya3⟩ := blk4 hf.chip; obtain ⟨zc0, zc1, zc2, zc3, yc0, yc1, yc2, yc3⟩ := blk4 hf.fate; obtain ⟨zd0, zd1, zd2, zd3, yd0, yd1, yd2, yd3⟩ := blk4 hf.ret; clear hf))
  have hs0 := HS.out
  have hs2 := HS2.out
  have hg1 := HG.out
  have hg2 := HG2.out
  have hf := HF3.out.put (.slice (some ⟨g, 0, none⟩) l.length cap) br false (wrap64 (ops + 1))
  have hh := HH3.out.step (fun k hk _ => far4 w2 w.heap.size (.slice (some ⟨g, 0, none⟩) l.length cap) (.bool br) (.bool false) (.int .i64 (wrap64 (ops + 1))) (show k ≠ w.heap.size by omega))
  have hb := below4 HB3.out (Nat.le_refl w.heap.size) (.slice (some ⟨g, 0, none⟩) l.length cap) (.bool br) (.bool false) (.int .i64 (wrap64 (ops + 1)))
  have n1 : ¬ g = w.heap.size := by omega
  have n2 : ¬ w.heap.size = g := by omega
  have n3 : ¬ g = w.heap.size + 1 + 1 := by omega
  have n4 : ¬ w.heap.size + 1 + 1 = g := by omega
  have m1 : w.heap.size ≤ g := by omega
  have m2 : w.heap.size ≤ g2 := by omega
  have m4 : w.heap.size + 3 ≤ g := by omega
  have m5 : w.heap.size + 3 ≤ g2 := by omega
  have M1 := Aside0.mk m1
  have M2 := Aside0.mk m2
  have M4 := Aside0.mk m4
  have M5 := Aside0.mk m5
  clear hs0 hs2 hg1 hg2 m1 m2 m4 m5
  clear za0 za1 za2 za3 ya0 ya1 ya2 ya3 zc0 zc1 zc2 zc3 yc0 yc1 yc2 yc3 zd0 zd1 zd2 zd3 yd0 yd1 yd2 yd3
  generalize ((((w2.setCell ⟨w.heap.size, 0, none⟩ (.slice (some ⟨g, 0, none⟩) l.length cap)).setCell ⟨w.heap.size, 1, none⟩ (.bool br)).setCell ⟨w.heap.size, 2, none⟩ (.bool false)).setCell ⟨w.heap.size, 3, none⟩ (.int .i64 (wrap64 (ops + 1)))) = W3 at hf hh hb ⊢
  obtain ⟨za0, za1, za2, za3, ya0, ya1, ya2, ya3⟩ := blk4 hf.chip; obtain ⟨zc0, zc1, zc2, zc3, yc0, yc1, yc2, yc3⟩ := blk4 hf.fate; obtain ⟨zd0, zd1, zd2, zd3, yd0, yd1, yd2, yd3⟩ := blk4 hf.ret
  obtain ⟨ze0, ze1, ze2, ze3, ye0, ye1, ye2, ye3⟩ := hh.cells

  have HF4 := Aside0.mk hf
  have HH4 := Aside0.mk hh
  have HB4 := Aside0.mk hb
  clear hf hh hb HF3 HH3 HB3
  · go_wp2
    have m1 := M1.out
    have hf2 := (HF4.out.far (fun k h1 h2 => Below.heap_setCell W3 ⟨g, b.toNat * 4 + 3, none⟩ (.bool true) k (show k ≠ g by have := M4.out; omega))).putR (.slice (some ⟨g, 0, none⟩) l.length cap) (.bool br) (.bool false) (.int .i64 (wrap64 (ops + 1)))
    have hh := (HH4.out.bad_ true).step (fun k hk _ => far4 _ (w.heap.size + 1 + 1) (.slice (some ⟨g, 0, none⟩) l.length cap) (.bool br) (.bool false) (.int .i64 (wrap64 (ops + 1))) (show k ≠ w.heap.size + 1 + 1 by have := M4.out; have := M5.out; omega))
    have hbw := below4 (below_set (j := b.toNat * 4 + 3) (v := .bool true) HB4.out m1) (show w.heap.size ≤ w.heap.size + 1 + 1 by omega) (.slice (some ⟨g, 0, none⟩) l.length cap) (.bool br) (.bool false) (.int .i64 (wrap64 (ops + 1)))
    refine bodyPost_ret (results_ct rfl _ _ (w.heap.size + 1 + 1) 27 #[.slice (some ⟨g, 0, none⟩) l.length cap, .bool br, .bool false, .int .i64 (wrap64 (ops + 1))] (0, 0) _ rfl hf2.ret Try.underlying27 rfl (by kernel_rfl)) rfl ⟨some ⟨g, 0, none⟩, cap, ?_, by rw [List.length_set]; exact hcap, hh.out (by have := M4.out; omega) (by have := M5.out; omega) (fun _ hk => .inl hk.1), hbw⟩
    rw [List.length_set]
    rfl
set_option maxHeartbeats 2000000 in
set_option maxRecDepth 100000 in
/-- .. done, or cut. -/
theorem nerase_done (A : Option Addr) (c : Nat) (l : List Blk) (br : Bool) (ops b kind : Int) (fd ft : ByteArray) (n : Int) (P : Nat → Prop) (w : World) (hF0 : Kd.F kB w P A l.length l) (hc : l.length ≤ c) (hs : sm l = true) (hm : mayB l b kind = true) (hk : kind = 0 ∨ kind = 2) :
    Calls Try.prog 17 #[.agg #[.slice A l.length c, .bool br, .bool false, .int .i64 ops], .int .i64 b, .agg #[.int .i64 kind, .string fd, .string ft, .int .i64 n]] w fun e1 w' =>
      Out P w w' e1 (l.set b.toNat (eraB (rdB l b) kind n), br, decide (kind = 2), wrap64 (ops + 1), if kind = 2 then 52 else 0) := by
  obtain ⟨hl, hall⟩ := sm_iff.1 hs
  obtain ⟨h0, h1, h2, h3, h4⟩ := may_iff.1 hm
  have hC := Kd.F_now hF0
  obtain ⟨W0, hW, hF, hB, hS⟩ := three_start w (.slice A l.length c) br false ops kind fd ft n
  have RF := Aside0.mk (refused_no A c l br false ops b kind n fd ft W0 (Kd.C_below hC hB) 0 (ref_ok hm))
  rw [if_neg (show ¬ (0 : Int) = 1 by omega)] at RF
  have HF0 := Aside0.mk hF0
  have HW := Aside0.mk hW
  have HF := Aside0.mk hF
  have HB := Aside0.mk hB
  have HS := Aside0.mk hS
  have hx := rdB_at h0 h1
  have hp6 := hall _ (List.mem_of_getElem? hx)
  obtain ⟨x, hxx⟩ : ∃ x, rdB l b = x := ⟨_, rfl⟩
  rw [hxx] at hx hp6 ⊢
  have HX := Aside0.mk hx
  clear hC hF0 hW hF hB hS hm h4 hs hall hx hxx
  obtain ⟨er, her⟩ : ∃ er, wrap64 (x.f2 + 1) = er := ⟨_, rfl⟩
  obtain ⟨m, hm⟩ : ∃ m, eraN x kind n = m := ⟨_, rfl⟩
  unfold eraB
  rw [her, hm]
  have hmb : 0 ≤ m ∧ m ≤ x.f0.length := by
    rw [← hm]; unfold eraN
    have := upTo_facts (n := n) (k := (x.f0.length : Int)) (by omega)
    split <;> omega
  obtain ⟨hm0, hm1⟩ := hmb
  obtain ⟨ps', hps⟩ : ∃ ps', List.replicate m.toNat zP ++ x.f0.drop m.toNat = ps' := ⟨_, rfl⟩
  rw [hps]
  have HPS := Aside0.mk hps
  have HER := Aside0.mk her
  have HM := Aside0.mk hm
  have hlp : x.f0.length ≤ 9223372036854775807 := by omega
  clear her hm hps
  have e1 : (kind == 1) = false := by rcases hk with rfl | rfl <;> rfl
  go_enter Try.func17, Try.ntmps17
  go_upto_region 4 with (first
    | (go_at_call 28; rw [HW.out]; refine RF.out.mono ?_; rintro e1 w1 ⟨rfl, hb⟩; have hf := HF.out.below hb; obtain ⟨za0, za1, za2, za3, ya0, ya1, ya2, ya3⟩ := blk4 hf.chip; obtain ⟨zc0, zc1, zc2, zc3, yc0, yc1, yc2, yc3⟩ := blk4 hf.fate; obtain ⟨zd0, zd1, zd2, zd3, yd0, yd1, yd2, yd3⟩ := blk4 hf.ret; have HB1 := Aside0.mk hb; have HF1 := Aside0.mk hf; clear hf hb))
  have hf := HF1.out.put (.slice A l.length c) br false ops
  have hb := below4 (below_step HB.out HB1.out) (Nat.le_refl w.heap.size) (.slice A l.length c) (.bool br) (.bool false) (.int .i64 ops)
  have hs : W0.heap.size ≤ ((((w1.setCell ⟨w.heap.size, 0, none⟩ (.slice A l.length c)).setCell ⟨w.heap.size, 1, none⟩ (.bool br)).setCell ⟨w.heap.size, 2, none⟩ (.bool false)).setCell ⟨w.heap.size, 3, none⟩ (.int .i64 ops)).heap.size := by have := HB1.out.size; simpa using this
  clear za0 za1 za2 za3 ya0 ya1 ya2 ya3 zc0 zc1 zc2 zc3 yc0 yc1 yc2 yc3 zd0 zd1 zd2 zd3 yd0 yd1 yd2 yd3
  generalize ((((w1.setCell ⟨w.heap.size, 0, none⟩ (.slice A l.length c)).setCell ⟨w.heap.size, 1, none⟩ (.bool br)).setCell ⟨w.heap.size, 2, none⟩ (.bool false)).setCell ⟨w.heap.size, 3, none⟩ (.int .i64 ops)) = W1 at hf hb hs ⊢
  obtain ⟨za0, za1, za2, za3, ya0, ya1, ya2, ya3⟩ := blk4 hf.chip; obtain ⟨zc0, zc1, zc2, zc3, yc0, yc1, yc2, yc3⟩ := blk4 hf.fate; obtain ⟨zd0, zd1, zd2, zd3, yd0, yd1, yd2, yd3⟩ := blk4 hf.ret
  have HB2 := Aside0.mk hb
  have HF2 := Aside0.mk hf
  have HS2 := Aside0.mk hs
  clear hb hf hs HB1 HF1
  go_upto_region 5 with (first
    | (go_at_call 29; refine (changed_any A c l br false ops b x P w W1 HF0.out HB2.out hl h0 HX.out hp6).mono ?_; rintro e2 w2 ⟨g, g2, cap, A2, c2, rfl, hH, hg, hg2, hcap, hb2⟩; have HF3 := Aside0.mk (HF2.out.below hb2); have HB3 := Aside0.mk (below_step HB2.out hb2); have HH3 := Aside0.mk hH; have HG := Aside0.mk hg; have HG2 := Aside0.mk hg2; clear za0 za1 za2 za3 ya0 ya1 ya2 ya3 zc0 zc1 zc2 zc3 yc0 yc1 yc2 yc3 zd0 zd1 zd2 zd3 yd0 yd1 yd2 yd3 hH hb2 hg hg2; have hf := HF3.out; obtain ⟨za0, za1, za2, za3, ya0, ya1, ya2, ya3⟩ := blk4 hf.chip; obtain ⟨zc0, zc1, zc2, zc3, yc0, yc1, yc2, yc3⟩ := blk4 hf.fate; obtain ⟨zd0, zd1, zd2, zd3, yd0, yd1, yd2, yd3⟩ := blk4 hf.ret; clear hf))
  have hs0 := HS.out
  have hs2 := HS2.out
  have hg1 := HG.out
  have hg2 := HG2.out
  have hf := HF3.out.put (.slice (some ⟨g, 0, none⟩) l.length cap) br false (wrap64 (ops + 1))
  have hh := HH3.out.step (fun k hk _ => far4 w2 w.heap.size (.slice (some ⟨g, 0, none⟩) l.length cap) (.bool br) (.bool false) (.int .i64 (wrap64 (ops + 1))) (show k ≠ w.heap.size by omega))
  have hb := below4 HB3.out (Nat.le_refl w.heap.size) (.slice (some ⟨g, 0, none⟩) l.length cap) (.bool br) (.bool false) (.int .i64 (wrap64 (ops + 1)))
  have n1 : ¬ g = w.heap.size := by omega
  have n2 : ¬ w.heap.size = g := by omega
  have n3 : ¬ g = w.heap.size + 1 + 1 := by omega
  have n4 : ¬ w.heap.size + 1 + 1 = g := by omega
  have m1 : w.heap.size ≤ g := by omega
  have m2 : w.heap.size ≤ g2 := by omega
  have m4 : w.heap.size + 3 ≤ g := by omega
  have m5 : w.heap.size + 3 ≤ g2 := by omega
  have M1 := Aside0.mk m1
  have M2 := Aside0.mk m2
  have M4 := Aside0.mk m4
  have M5 := Aside0.mk m5
  clear hs0 hs2 hg1 hg2 m1 m2 m4 m5
  clear za0 za1 za2 za3 ya0 ya1 ya2 ya3 zc0 zc1 zc2 zc3 yc0 yc1 yc2 yc3 zd0 zd1 zd2 zd3 yd0 yd1 yd2 yd3
  generalize ((((w2.setCell ⟨w.heap.size, 0, none⟩ (.slice (some ⟨g, 0, none⟩) l.length cap)).setCell ⟨w.heap.size, 1, none⟩ (.bool br)).setCell ⟨w.heap.size, 2, none⟩ (.bool false)).setCell ⟨w.heap.size, 3, none⟩ (.int .i64 (wrap64 (ops + 1)))) = W3 at hf hh hb ⊢
  obtain ⟨za0, za1, za2, za3, ya0, ya1, ya2, ya3⟩ := blk4 hf.chip; obtain ⟨zc0, zc1, zc2, zc3, yc0, yc1, yc2, yc3⟩ := blk4 hf.fate; obtain ⟨zd0, zd1, zd2, zd3, yd0, yd1, yd2, yd3⟩ := blk4 hf.ret
  obtain ⟨ze0, ze1, ze2, ze3, ye0, ye1, ye2, ye3⟩ := hh.cells

  have HF4 := Aside0.mk hf
  have HH4 := Aside0.mk hh
  have HB4 := Aside0.mk hb
  clear hf hh hb HF3 HH3 HB3
  · go_upto_region 9 with (fail)
    rw [HER.out]
    have hf := HF4.out.far (W1 := W3.setCell ⟨g, b.toNat * 4 + 2, none⟩ (.int .i64 er)) (fun k h1 h2 => Below.heap_setCell W3 ⟨g, b.toNat * 4 + 2, none⟩ (.int .i64 er) k (show k ≠ g by have := M4.out; omega))
    have hh := HH4.out.erases er
    have hb := below_set (j := b.toNat * 4 + 2) (v := .int .i64 er) HB4.out M1.out
    clear ze0 ze1 ze2 ze3 ye0 ye1 ye2 ye3 za0 za1 za2 za3 ya0 ya1 ya2 ya3 zc0 zc1 zc2 zc3 yc0 yc1 yc2 yc3 zd0 zd1 zd2 zd3 yd0 yd1 yd2 yd3
    generalize W3.setCell ⟨g, b.toNat * 4 + 2, none⟩ (.int .i64 er) = W4 at hf hh hb ⊢
    obtain ⟨za0, za1, za2, za3, ya0, ya1, ya2, ya3⟩ := blk4 hf.chip; obtain ⟨zc0, zc1, zc2, zc3, yc0, yc1, yc2, yc3⟩ := blk4 hf.fate; obtain ⟨zd0, zd1, zd2, zd3, yd0, yd1, yd2, yd3⟩ := blk4 hf.ret
    obtain ⟨ze0, ze1, ze2, ze3, ye0, ye1, ye2, ye3⟩ := hh.cells
    have HF5 := Aside0.mk hf
    have HH5 := Aside0.mk hh
    have HB5 := Aside0.mk hb
    clear hf hh hb HF4 HH4 HB4
    obtain ⟨k, hkm⟩ : ∃ k : Nat, m.toNat = k := ⟨_, rfl⟩
    have hcut := HH5.out.cut_run m hm0 hm1
    have hkl : k ≤ x.f0.length := by omega
    have hclr := HH5.out.clear_run 0 k c2 hkl
    have hln : (List.replicate k zP ++ x.f0.drop k).length = x.f0.length := by simp; omega
    rw [hkm] at hcut
    have hps := HPS.out
    rw [hkm] at hps
    rw [hps] at hln
    have HKM := Aside0.mk hps
    clear hkm hps
    rcases hk with rfl | rfl
    · obtain rfl : m = (x.f0.length : Int) := by have := HM.out; unfold eraN at this; rw [if_neg (by omega)] at this; omega
      go_upto_region 13 with (fail)
      have hf := HF5.out.far (W1 := W4.setCells g2 0 (zc k)) (fun k' h1 h2 => heap_setCells (show k' ≠ g2 by have := M5.out; omega) _ _ _)
      have hh := HH5.out.clear k hkl
      rw [HKM.out] at hh
      have hb := below_setCells M2.out (zc k) 0 W4 HB5.out
      clear ze0 ze1 ze2 ze3 ye0 ye1 ye2 ye3 za0 za1 za2 za3 ya0 ya1 ya2 ya3 zc0 zc1 zc2 zc3 yc0 yc1 yc2 yc3 zd0 zd1 zd2 zd3 yd0 yd1 yd2 yd3 hcut hclr
      generalize W4.setCells g2 0 (zc k) = W5 at hf hh hb ⊢
      obtain ⟨za0, za1, za2, za3, ya0, ya1, ya2, ya3⟩ := blk4 hf.chip; obtain ⟨zc0, zc1, zc2, zc3, yc0, yc1, yc2, yc3⟩ := blk4 hf.fate; obtain ⟨zd0, zd1, zd2, zd3, yd0, yd1, yd2, yd3⟩ := blk4 hf.ret
      obtain ⟨ze0, ze1, ze2, ze3, ye0, ye1, ye2, ye3⟩ := hh.cells
      rw [hln] at ze0
      have HF6 := Aside0.mk hf
      have HH6 := Aside0.mk hh
      have HB6 := Aside0.mk hb
      clear hf hh hb HF5 HH5 HB5
      go_wp2
      have m1 := M1.out
      have hf2 := (HF6.out.far (fun k h1 h2 => Below.heap_setCell W5 ⟨g, b.toNat * 4 + 1, none⟩ (.int .i64 0) k (show k ≠ g by have := M4.out; omega))).putR (.slice (some ⟨g, 0, none⟩) l.length cap) (.bool br) (.bool false) (.int .i64 (wrap64 (ops + 1)))
      have hh := (HH6.out.next 0).step (fun k hk _ => far4 _ (w.heap.size + 1 + 1) (.slice (some ⟨g, 0, none⟩) l.length cap) (.bool br) (.bool false) (.int .i64 (wrap64 (ops + 1))) (show k ≠ w.heap.size + 1 + 1 by have := M4.out; have := M5.out; omega))
      have hbw := below4 (below_set (j := b.toNat * 4 + 1) (v := .int .i64 0) HB6.out m1) (show w.heap.size ≤ w.heap.size + 1 + 1 by omega) (.slice (some ⟨g, 0, none⟩) l.length cap) (.bool br) (.bool false) (.int .i64 (wrap64 (ops + 1)))
      refine bodyPost_ret (results_ct rfl _ _ (w.heap.size + 1 + 1) 27 #[.slice (some ⟨g, 0, none⟩) l.length cap, .bool br, .bool false, .int .i64 (wrap64 (ops + 1))] (0, 0) _ rfl hf2.ret Try.underlying27 rfl (by kernel_rfl)) rfl ⟨some ⟨g, 0, none⟩, cap, ?_, by rw [List.length_set]; exact hcap, hh.out (by have := M4.out; omega) (by have := M5.out; omega) (fun _ hk => .inl hk.1), hbw⟩
      rw [List.length_set]
      rfl
    · have hmm := HM.out
      unfold eraN upTo at hmm
      rw [if_pos rfl] at hmm
      go_upto_region 12 with (fail)
      clear hmm
      go_upto_region 13 with (fail)
      have hf := HF5.out.far (W1 := W4.setCells g2 0 (zc k)) (fun k' h1 h2 => heap_setCells (show k' ≠ g2 by have := M5.out; omega) _ _ _)
      have hh := HH5.out.clear k hkl
      rw [HKM.out] at hh
      have hb := below_setCells M2.out (zc k) 0 W4 HB5.out
      clear ze0 ze1 ze2 ze3 ye0 ye1 ye2 ye3 za0 za1 za2 za3 ya0 ya1 ya2 ya3 zc0 zc1 zc2 zc3 yc0 yc1 yc2 yc3 zd0 zd1 zd2 zd3 yd0 yd1 yd2 yd3 hcut hclr
      generalize W4.setCells g2 0 (zc k) = W5 at hf hh hb ⊢
      obtain ⟨za0, za1, za2, za3, ya0, ya1, ya2, ya3⟩ := blk4 hf.chip; obtain ⟨zc0, zc1, zc2, zc3, yc0, yc1, yc2, yc3⟩ := blk4 hf.fate; obtain ⟨zd0, zd1, zd2, zd3, yd0, yd1, yd2, yd3⟩ := blk4 hf.ret
      obtain ⟨ze0, ze1, ze2, ze3, ye0, ye1, ye2, ye3⟩ := hh.cells
      rw [hln] at ze0
      have HF6 := Aside0.mk hf
      have HH6 := Aside0.mk hh
      have HB6 := Aside0.mk hb
      clear hf hh hb HF5 HH5 HB5
      go_upto_region 14 with (fail)
      have hf := HF6.out.far (W1 := W5.setCell ⟨g, b.toNat * 4 + 1, none⟩ (.int .i64 0)) (fun k h1 h2 => Below.heap_setCell W5 ⟨g, b.toNat * 4 + 1, none⟩ (.int .i64 0) k (show k ≠ g by have := M4.out; omega))
      have hh := HH6.out.next 0
      have hb := below_set (j := b.toNat * 4 + 1) (v := .int .i64 0) HB6.out M1.out
      clear ze0 ze1 ze2 ze3 ye0 ye1 ye2 ye3 za0 za1 za2 za3 ya0 ya1 ya2 ya3 zc0 zc1 zc2 zc3 yc0 yc1 yc2 yc3 zd0 zd1 zd2 zd3 yd0 yd1 yd2 yd3
      generalize W5.setCell ⟨g, b.toNat * 4 + 1, none⟩ (.int .i64 0) = W6 at hf hh hb ⊢
      obtain ⟨za0, za1, za2, za3, ya0, ya1, ya2, ya3⟩ := blk4 hf.chip; obtain ⟨zc0, zc1, zc2, zc3, yc0, yc1, yc2, yc3⟩ := blk4 hf.fate; obtain ⟨zd0, zd1, zd2, zd3, yd0, yd1, yd2, yd3⟩ := blk4 hf.ret
      obtain ⟨ze0, ze1, ze2, ze3, ye0, ye1, ye2, ye3⟩ := hh.cells
      rw [hln] at ze0
      have HF7 := Aside0.mk hf
      have HH7 := Aside0.mk hh
      have HB7 := Aside0.mk hb
      clear hf hh hb HF6 HH6 HB6
      go_upto_region 16 with (fail)
      have hf := HF7.out.far (W1 := W6.setCell ⟨g, b.toNat * 4 + 1, none⟩ (.int .i64 x.f0.length)) (fun k h1 h2 => Below.heap_setCell W6 ⟨g, b.toNat * 4 + 1, none⟩ (.int .i64 x.f0.length) k (show k ≠ g by have := M4.out; omega))
      have hh := HH7.out.next x.f0.length
      have hb := below_set (j := b.toNat * 4 + 1) (v := .int .i64 x.f0.length) HB7.out M1.out
      clear ze0 ze1 ze2 ze3 ye0 ye1 ye2 ye3 za0 za1 za2 za3 ya0 ya1 ya2 ya3 zc0 zc1 zc2 zc3 yc0 yc1 yc2 yc3 zd0 zd1 zd2 zd3 yd0 yd1 yd2 yd3
      generalize W6.setCell ⟨g, b.toNat * 4 + 1, none⟩ (.int .i64 x.f0.length) = W7 at hf hh hb ⊢
      obtain ⟨za0, za1, za2, za3, ya0, ya1, ya2, ya3⟩ := blk4 hf.chip; obtain ⟨zc0, zc1, zc2, zc3, yc0, yc1, yc2, yc3⟩ := blk4 hf.fate; obtain ⟨zd0, zd1, zd2, zd3, yd0, yd1, yd2, yd3⟩ := blk4 hf.ret
      obtain ⟨ze0, ze1, ze2, ze3, ye0, ye1, ye2, ye3⟩ := hh.cells
      rw [hln] at ze0
      have HF8 := Aside0.mk hf
      have HH8 := Aside0.mk hh
      have HB8 := Aside0.mk hb
      clear hf hh hb HF7 HH7 HB7
      go_wp2
      all_goals (
        have hf2 := (HF8.out.cut true).putR (.slice (some ⟨g, 0, none⟩) l.length cap) (.bool br) (.bool true) (.int .i64 (wrap64 (ops + 1)))
        have hh := (HH8.out.far (p := ⟨w.heap.size, 2, none⟩) (fun k hk => by have := hk.2; show k ≠ w.heap.size; omega) n2 (show ¬ w.heap.size = g2 by have := M5.out; omega) (.bool true)).step (fun k hk _ => far4 _ (w.heap.size + 1 + 1) (.slice (some ⟨g, 0, none⟩) l.length cap) (.bool br) (.bool true) (.int .i64 (wrap64 (ops + 1))) (show k ≠ w.heap.size + 1 + 1 by have := M4.out; have := M5.out; omega))
        have hbw := below4 (below_set (j := 2) (v := .bool true) HB8.out (Nat.le_refl w.heap.size)) (show w.heap.size ≤ w.heap.size + 1 + 1 by omega) (.slice (some ⟨g, 0, none⟩) l.length cap) (.bool br) (.bool true) (.int .i64 (wrap64 (ops + 1)))
        refine bodyPost_ret (results_ct rfl _ _ (w.heap.size + 1 + 1) 27 #[.slice (some ⟨g, 0, none⟩) l.length cap, .bool br, .bool true, .int .i64 (wrap64 (ops + 1))] (0, 0) _ rfl hf2.ret Try.underlying27 rfl (by kernel_rfl)) rfl ⟨some ⟨g, 0, none⟩, cap, ?_, by rw [List.length_set]; exact hcap, hh.out (by have := M4.out; omega) (by have := M5.out; omega) (fun _ hk => .inl hk.1), hbw⟩
        rw [List.length_set]
        rfl)
end Go.Proofs.Ythjjngfbpoapnaa.X
