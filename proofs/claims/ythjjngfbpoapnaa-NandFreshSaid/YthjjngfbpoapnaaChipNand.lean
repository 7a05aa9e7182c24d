/- The chip's own steps: refused, changed. -/
import Derived.Test.YthjjngfbpoapnaaChipClone
namespace Go.Proofs.Ythjjngfbpoapnaa.X
open Go.RowKit Go.Proofs.Ythjjngfbpoapnaa.PAll Go.Proofs.YthjjngfbpoapnaaW.PrintWords Go.Proofs.YthjjngfbpoapnaaW.PrintLast Go.Proofs.YthjjngfbpoapnaaW.PrintMore
set_option linter.unusedVariables false
set_option linter.unusedSimpArgs false

theorem raw_open {W : World} {base e sz : Nat} {ok : Nat → Prop} {v : Value} {rows : List (List Value)} {n : Nat} (h : (Kd.raw sz).R e W base ok v rows) (hn : rows.length = n) (hp : 0 < n) :
    ∃ (g cap : Nat) (cur : Array Value), v = .slice (some ⟨g, 0, none⟩) n cap ∧ base ≤ g ∧ n ≤ cap ∧ W.heap[g]? = some (.cells cur e (0, 0)) ∧ ∀ (j : Nat) (r : List Value), rows[j]? = some r → r.length = sz ∧ ∀ (i : Nat) (u : Value), r[i]? = some u → cur[j * sz + i]? = some u := by
  subst hn
  obtain ⟨g, cap, cur, hv, hg, _, hc, hh, hat⟩ := R_open h hp
  refine ⟨g, cap, cur, hv, hg, hc, hh, fun j r hr => ?_⟩
  obtain ⟨c, hcl, hM, hcc⟩ := hat j r hr
  obtain rfl : c = r := hM.1
  exact ⟨hcl, hcc⟩
theorem alloc_at (w : World) (o : Obj) : (w.alloc o).heap[w.heap.size]? = some o := heap_alloc_new w o
theorem blk4 {W : World} {g t : Nat} {a b c d : Value} (h : W.heap[g]? = some (.cells #[a, b, c, d] t (0, 0))) :
    W.cell? ⟨g, 0, none⟩ = some a ∧ W.cell? ⟨g, 1, none⟩ = some b ∧ W.cell? ⟨g, 2, none⟩ = some c ∧ W.cell? ⟨g, 3, none⟩ = some d ∧
    W.frozen? ⟨g, 0, none⟩ = false ∧ W.frozen? ⟨g, 1, none⟩ = false ∧ W.frozen? ⟨g, 2, none⟩ = false ∧ W.frozen? ⟨g, 3, none⟩ = false :=
  ⟨(blk_cell h 0).trans rfl, (blk_cell h 1).trans rfl, (blk_cell h 2).trans rfl, (blk_cell h 3).trans rfl, blk_frozen h 0, blk_frozen h 1, blk_frozen h 2, blk_frozen h 3⟩

/-- The pages of a block, cloned and put into it. -/
theorem Held.make {W w1 : World} {ok okp : Nat → Prop} {g base : Nat} {l : List Blk} {b : Nat} {x : Blk} {cur : Array Value} {z : Value} {v2 : Value} {rows : List (List Value)} (hb : b < l.length) (hl : l.length ≤ 1000000) (hp : x.f0.length ≤ 1000000)
    (hh : W.heap[g]? = some (.cells cur 44 (0, 0))) (h0 : cur[b * 4]? = some z) (h1 : cur[b * 4 + 1]? = some (.int .i64 x.f1)) (h2 : cur[b * 4 + 2]? = some (.int .i64 x.f2)) (h3 : cur[b * 4 + 3]? = some (.bool x.f3))
    (ho : ∀ j y, j ≠ b → l[j]? = some y → ∃ c, c.length = 4 ∧ (∀ i u, c[i]? = some u → cur[j * 4 + i]? = some u) ∧ Kd.FK kB W ok y c) (hok : ∀ k, ok k → k ≠ g ∧ k < base) (hg : g < base)
    (hR : (Kd.raw 3).R 46 W base (fun _ => True) v2 rows) (hrl : rows.length = x.f0.length) (hF : ∀ (j : Nat) (q : Pg) (c : List Value), x.f0[j]? = some q → rows[j]? = some c → Kd.FK kP w1 okp q c) :
    ∃ (g2 : Nat) (A2 : Option Addr) (c2 : Nat), v2 = .slice A2 x.f0.length c2 ∧ base ≤ g2 ∧ Held (W.setCell ⟨g, b * 4, none⟩ v2) ok g g2 l b A2 c2 x.f0 x.f1 x.f2 x.f3 := by
  have hcell : ∀ {g2 : Nat} {A2 : Option Addr} {c2 : Nat}, base ≤ g2 → v2 = .slice A2 x.f0.length c2 → x.f0.length ≤ c2 →
      (0 < x.f0.length → A2 = some ⟨g2, 0, none⟩ ∧ ∃ cur : Array Value, W.heap[g2]? = some (.cells cur 46 (0, 0)) ∧ ∀ j p, x.f0[j]? = some p → cur[j * 3]? = some (.bool p.f0) ∧ cur[j * 3 + 1]? = some (.string p.f1) ∧ cur[j * 3 + 2]? = some (.string p.f2)) →
      Held (W.setCell ⟨g, b * 4, none⟩ v2) ok g g2 l b A2 c2 x.f0 x.f1 x.f2 x.f3 := by
    intro g2 A2 c2 hg2 hv hc2 hpg
    refine { ne := by omega, lt := hb, len := hl, plen := hc2, pmax := hp, away := fun k hk => ⟨(hok k hk).1, by have := (hok k hk).2; omega⟩, row := ⟨_, heap_put hh _ v2, by rw [hv]; exact put_self h0, by rw [put_ne (by omega)]; exact h1, by rw [put_ne (by omega)]; exact h2, by rw [put_ne (by omega)]; exact h3, fun j y hj hy => ?_⟩, pages := fun hq => ?_ }
    · obtain ⟨c, hc, hcc, hf⟩ := ho j y hj hy
      refine ⟨c, hc, fun i u hu => ?_, FK_put hf (fun k hk => (hok k hk).1) v2⟩
      have hi : i < 4 := by have := (List.getElem?_eq_some_iff.1 hu).1; omega
      rw [put_ne (by omega)]
      exact hcc i u hu
    · obtain ⟨hA, cur2, hh2, hc⟩ := hpg hq
      exact ⟨hA, cur2, (Below.heap_setCell W ⟨g, b * 4, none⟩ v2 g2 (show g2 ≠ g by omega)).trans hh2, hc⟩
  rcases Nat.eq_zero_or_pos x.f0.length with hz | hpos
  · obtain ⟨A2, c2, hv, hc2, _⟩ := Kd.R_reads hR
    rw [hrl] at hv hc2
    exact ⟨base, A2, c2, hv, Nat.le_refl _, hcell (Nat.le_refl _) hv hc2 (fun h => by omega)⟩
  · obtain ⟨g2, c2, cur2, hv, hg2, hc2, hh2, hat⟩ := raw_open hR hrl hpos
    refine ⟨g2, _, c2, hv, hg2, hcell hg2 hv hc2 (fun _ => ⟨rfl, cur2, hh2, fun j q hj => ?_⟩)⟩
    have hjl : j < rows.length := by have := (List.getElem?_eq_some_iff.1 hj).1; omega
    obtain ⟨r, hr⟩ : ∃ r, rows[j]? = some r := ⟨_, List.getElem?_eq_getElem hjl⟩
    have hk := k46_open (Kd.FK_now (hF j q r hj hr))
    subst hk
    obtain ⟨_, hc⟩ := hat j _ hr
    exact ⟨hc 0 _ rfl, hc 1 _ rfl, hc 2 _ rfl⟩
/-- A row of four cells, written whole. -/
theorem put4 {W : World} {B T : Nat} {a0 b0 c0 d0 : Value} (h : W.heap[B]? = some (.cells #[a0, b0, c0, d0] T (0, 0))) (a b c d : Value) :
    ((((W.setCell ⟨B, 0, none⟩ a).setCell ⟨B, 1, none⟩ b).setCell ⟨B, 2, none⟩ c).setCell ⟨B, 3, none⟩ d).heap[B]? = some (.cells #[a, b, c, d] T (0, 0)) :=
  blk_put (cs := #[a, b, c, d0]) (blk_put (cs := #[a, b, c0, d0]) (blk_put (cs := #[a, b0, c0, d0]) (blk_put h 0 a rfl) 1 b rfl) 2 c rfl) 3 d rfl
theorem far4 (W : World) (B : Nat) (a b c d : Value) {k : Nat} (hk : k ≠ B) : ((((W.setCell ⟨B, 0, none⟩ a).setCell ⟨B, 1, none⟩ b).setCell ⟨B, 2, none⟩ c).setCell ⟨B, 3, none⟩ d).heap[k]? = W.heap[k]? := by
  rw [Below.heap_setCell _ _ _ _ hk, Below.heap_setCell _ _ _ _ hk, Below.heap_setCell _ _ _ _ hk, Below.heap_setCell _ _ _ _ hk]
theorem below4 {w W : World} {B : Nat} (h : Below w.heap.size w W) (hB : w.heap.size ≤ B) (a b c d : Value) : Below w.heap.size w ((((W.setCell ⟨B, 0, none⟩ a).setCell ⟨B, 1, none⟩ b).setCell ⟨B, 2, none⟩ c).setCell ⟨B, 3, none⟩ d) :=
  below_set (below_set (below_set (below_set h hB) hB) hB) hB
set_option maxHeartbeats 2000000 in
set_option maxRecDepth 100000 in
theorem changed_any (A : Option Addr) (c : Nat) (l : List Blk) (br off : Bool) (ops b : Int) (x : Blk) (P : Nat → Prop) (w0 w : World) (hF : Kd.F kB w0 P A l.length l) (hw0 : Below w0.heap.size w0 w) (hl : l.length ≤ 1000000) (h0 : 0 ≤ b) (hx : l[b.toNat]? = some x) (hp : x.f0.length ≤ 1000000) :
    Calls Try.prog 29 #[.agg #[.slice A l.length c, .bool br, .bool off, .int .i64 ops], .int .i64 b] w fun e w' => ∃ (g g2 cap : Nat) (A2 : Option Addr) (c2 : Nat),
      e = .returned (.tuple #[.agg #[.slice (some ⟨g, 0, none⟩) l.length cap, .bool br, .bool off, .int .i64 (wrap64 (ops + 1))], .pointer (some ⟨g, b.toNat * 4, none⟩)]) ∧
      Held w' (fun k => P k ∧ k < w0.heap.size) g g2 l b.toNat A2 c2 x.f0 x.f1 x.f2 x.f3 ∧ w.heap.size ≤ g ∧ w.heap.size ≤ g2 ∧ l.length ≤ cap ∧ Below w.heap.size w w' := by
  have hbl : b.toNat < l.length := (List.getElem?_eq_some_iff.1 hx).1
  have hb1 : b < (l.length : Int) := by omega
  have HW0 := Aside0.mk hw0
  have HX := Aside0.mk hx
  obtain ⟨W0, hW⟩ : ∃ W0 : World, (w.alloc (.cells #[.slice A l.length c, .bool br, .bool off, .int .i64 (wrap64 (ops + 1))] 27)).alloc (.cells #[.slice none 0 0, .bool false, .bool false, .int .i64 0] 27) = W0 := ⟨_, rfl⟩
  have hB0 : Below w.heap.size w W0 := by rw [← hW]; exact ((Below.refl _ w).alloc (Nat.le_refl _) _).alloc (by simp) _
  have hs0 : W0.heap.size = w.heap.size + 2 := by rw [← hW]; simp
  have hk0 : W0.heap[w.heap.size]? = some (.cells #[.slice A l.length c, .bool br, .bool off, .int .i64 (wrap64 (ops + 1))] 27 (0, 0)) := by rw [← hW]; exact blk_alloc (alloc_at _ _) _
  have hk1 : W0.heap[w.heap.size + 1]? = some (.cells #[.slice none 0 0, .bool false, .bool false, .int .i64 0] 27 (0, 0)) := by rw [← hW]; have := alloc_at (w.alloc (.cells #[.slice A l.length c, .bool br, .bool off, .int .i64 (wrap64 (ops + 1))] 27)) (.cells #[.slice none 0 0, .bool false, .bool false, .int .i64 0] 27); simpa using this
  have HW := Aside0.mk hW
  have HB0 := Aside0.mk hB0
  have HS0 := Aside0.mk hs0
  have HK0 := Aside0.mk hk0
  have HK1 := Aside0.mk hk1
  have CL := Aside0.mk (cloneBlk A c l P w0 W0 hF (below_step hw0 hB0) hl)
  clear hF hx hW hB0 hs0 hk0 hk1 hw0
  go_enter Try.func29, Try.ntmps29
  go_wp2_with (first
    | (go_at_call 34; rw [HW.out]; refine CL.out.mono ?_; rintro e w1 ⟨v, rows, rfl, hR, hrl, hF, hb⟩; obtain ⟨g, cap, cur, rfl, hg, hcap, hh, hat⟩ := raw_open hR hrl (by omega); obtain ⟨r, hr⟩ : ∃ r, rows[b.toNat]? = some r := ⟨_, List.getElem?_eq_getElem (by omega)⟩; obtain ⟨A2, c2, rfl, hle, hCP⟩ := k44_openF (hF _ _ _ HX.out hr); obtain ⟨_, hc4⟩ := hat _ _ hr; have e0 := hc4 0 _ rfl; have e1 := hc4 1 _ rfl; have e2 := hc4 2 _ rfl; have e3 := hc4 3 _ rfl; have q0 := (hb.block _ (by have := HS0.out; omega)).trans HK0.out; have q1 := (hb.block _ (by have := HS0.out; omega)).trans HK1.out; obtain ⟨z0, z1, z2, z3, y0, y1, y2, y3⟩ := blk4 q0; have z4 := (blk_cell hh _).trans e0; have y4 := blk_frozen hh (b.toNat * 4 + 0); have n1 : ¬ g = w.heap.size := (by have := HS0.out; omega); have n2 : ¬ w.heap.size = g := (by omega); simp only [Nat.add_zero] at z4 y4; have HB1 := Aside0.mk hb; have HH := Aside0.mk hh; have HE0 := Aside0.mk e0; have HE1 := Aside0.mk e1; have HE2 := Aside0.mk e2; have HE3 := Aside0.mk e3; have HAT := Aside0.mk hat; have HF := Aside0.mk hF; have HQ1 := Aside0.mk q1; have HQ0 := Aside0.mk q0; have HCP := Aside0.mk hCP; have HRL := Aside0.mk hrl; have HR := Aside0.mk hr; clear hb hh e0 e1 e2 e3 hat hF q0 q1 hR hCP hrl hr hc4)
    | (go_at_call 35; have hb01 := below_set (j := 0) (v := .slice (some ⟨g, 0, none⟩) l.length cap) (below_step HB0.out HB1.out) (Nat.le_refl w.heap.size); refine (clonePg A2 c2 x.f0 (fun k => P k ∧ k < w0.heap.size) w0 _ HCP.out (below_step HW0.out hb01) hp).mono ?_; rintro e w2 ⟨v2, rows2, rfl, hR2, hrl2, hF2, hb2⟩; have hs1 := HB1.out.size; have hs0 := HS0.out; have p0 := (hb2.block w.heap.size (by simp; omega)).trans (blk_put HQ0.out 0 (.slice (some ⟨g, 0, none⟩) l.length cap) rfl); have p1 := (hb2.block (w.heap.size + 1) (by simp; omega)).trans ((Below.heap_setCell w1 ⟨w.heap.size, 0, none⟩ (.slice (some ⟨g, 0, none⟩) l.length cap) (w.heap.size + 1) (by simp)).trans HQ1.out); have pg := (hb2.block g (by have := blk_lt HH.out; simpa using this)).trans ((Below.heap_setCell w1 ⟨w.heap.size, 0, none⟩ (.slice (some ⟨g, 0, none⟩) l.length cap) g n1).trans HH.out); clear z0 z1 z2 z3 y0 y1 y2 y3 z4 y4; obtain ⟨z0, z1, z2, z3, y0, y1, y2, y3⟩ := blk4 p0; obtain ⟨z5, z6, z7, z8, y5, y6, y7, y8⟩ := blk4 p1; have z4 := (blk_cell pg _).trans HE0.out; have y4 := blk_frozen pg (b.toNat * 4 + 0); simp only [Nat.add_zero] at z4 y4; have hbw := below_step hb01 hb2; have oth : ∀ j y, j ≠ b.toNat → l[j]? = some y → ∃ c, c.length = 4 ∧ (∀ i u, c[i]? = some u → cur[j * 4 + i]? = some u) ∧ Kd.FK kB w2 (fun k => P k ∧ k < w0.heap.size) y c := (fun j y _ hj => by obtain ⟨r, hr⟩ : ∃ r, rows[j]? = some r := ⟨_, List.getElem?_eq_getElem (by have := (List.getElem?_eq_some_iff.1 hj).1; have := HRL.out; omega)⟩; obtain ⟨q1, q2⟩ := HAT.out j r hr; exact ⟨r, q1, q2, Kd.FK_step (HF.out j y r hj hr) (fun k hk _ => (below_step HW0.out hbw).block k hk.2)⟩); obtain ⟨g2, A3, c3, rfl, hg2, HH2⟩ := Held.make hbl hl hp pg HE0.out HE1.out HE2.out HE3.out oth (fun k hk => ⟨(by have := hk.2; have := hs1; have := HW0.out.size; omega), (by have := hk.2; have := HW0.out.size; simp; omega)⟩) (by have := blk_lt HH.out; simpa using this) hR2 hrl2 hF2; have HP0 := Aside0.mk p0; have HP1 := Aside0.mk p1; have HBW := Aside0.mk hbw; have HHE := Aside0.mk HH2; have HG2 := Aside0.mk hg2; have n3 : ¬ g = w.heap.size + 1 := (by have := hs1; omega); have n4 : ¬ w.heap.size + 1 = g := (by omega); clear p0 p1 pg hbw oth HH2 hg2 hR2 hrl2 hF2 hb2 hb01))
  have hw0 := HW0.out.size
  have hs0 := HS0.out
  have hs1 := HB1.out.size
  have hg2 : w1.heap.size ≤ g2 := by have := HG2.out; simpa using this
  refine bodyPost_ret (results_ct rfl _ _ (w.heap.size + 1) 27 #[.slice (some ⟨g, 0, none⟩) l.length cap, .bool br, .bool off, .int .i64 (wrap64 (ops + 1))] (0, 0) _ rfl (put4 ((Below.heap_setCell _ _ _ _ n4).trans HP1.out) _ _ _ _) Try.underlying27 rfl (by kernel_rfl)) rfl ?_
  refine ⟨g, g2, cap, A3, c3, rfl, HHE.out.step (fun k hk _ => far4 _ _ _ _ _ _ (by omega)), by omega, by omega, hcap, below4 (below_set HBW.out (by omega)) (by omega) _ _ _ _⟩
/-- May anything be done to a block? -/
def mayB (l : List Blk) (b kind : Int) : Bool := decide (0 ≤ b) && (decide (b < l.length) && (decide (0 ≤ kind) && (decide (kind ≤ 2) && !(rd_T44 l b).f3)))
/-- The error of what may not be done; 0: it may. -/
def refE (l : List Blk) (off : Bool) (b kind : Int) : Int := if off = true then 52 else if mayB l b kind = true then 0 else 1
theorem ref_off (l : List Blk) (b kind : Int) : refE l true b kind = 52 := rfl
theorem ref_ok {l : List Blk} {b kind : Int} (h : mayB l b kind = true) : refE l false b kind = 0 := by unfold refE; rw [if_neg (by simp), if_pos h]
theorem ref_no {l : List Blk} {b kind : Int} (h : mayB l b kind = false) : refE l false b kind = 1 := by unfold refE; rw [if_neg (by simp), if_neg (by simp [h])]
theorem may_iff {l : List Blk} {b kind : Int} : mayB l b kind = true ↔ 0 ≤ b ∧ b < l.length ∧ 0 ≤ kind ∧ kind ≤ 2 ∧ (rd_T44 l b).f3 = false := by
  unfold mayB
  simp [Bool.and_eq_true, decide_eq_true_iff]
set_option maxHeartbeats 2000000 in
set_option maxRecDepth 100000 in
theorem refused_any (A : Option Addr) (c : Nat) (l : List Blk) (br off : Bool) (ops b kind n : Int) (fd ft : ByteArray) (w : World) (hC : Kd.C kB w A l.length l) :
    Calls Try.prog 28 #[.agg #[.slice A l.length c, .bool br, .bool off, .int .i64 ops], .int .i64 b, .agg #[.int .i64 kind, .string fd, .string ft, .int .i64 n]] w fun e w' =>
      e = .returned (.tuple #[.agg #[.slice A l.length c, .bool (if refE l off b kind = 1 then true else br), .bool off, .int .i64 ops], .int .i64 (refE l off b kind)]) ∧ Below w.heap.size w w' := by
  have hm : l.length ≤ 9223372036854775807 := hC.2.1
  cases off with
  | true =>
    rw [ref_off]
    clear hC
    go_enter Try.func28, Try.ntmps28
    go_wp2
    exact bodyPost_ret (v := .tuple #[.agg #[.slice A l.length c, .bool _, .bool _, .int .i64 ops], .int .i64 _]) (by simp [results, Try.results28, go_sem]) rfl ⟨rfl, (((Below.refl _ w).alloc (Nat.le_refl _) _).alloc (by simp) _).alloc (by simp; omega) _⟩
  | false =>
    by_cases hb0 : b < 0
    · rw [ref_no (by cases hh : mayB l b kind with | false => rfl | true => obtain ⟨h0, h1, h2, h3, h4⟩ := may_iff.1 hh; first | omega | (exfalso; simp_all))]
      clear hC
      go_enter Try.func28, Try.ntmps28
      go_wp2
      exact bodyPost_ret (v := .tuple #[.agg #[.slice A l.length c, .bool _, .bool _, .int .i64 ops], .int .i64 _]) (by simp [results, Try.results28, go_sem]) rfl ⟨rfl, (((Below.refl _ w).alloc (Nat.le_refl _) _).alloc (by simp) _).alloc (by simp; omega) _⟩
    by_cases hb1 : (l.length : Int) ≤ b
    · rw [ref_no (by cases hh : mayB l b kind with | false => rfl | true => obtain ⟨h0, h1, h2, h3, h4⟩ := may_iff.1 hh; first | omega | (exfalso; simp_all))]
      clear hC
      have hb0 : 0 ≤ b := by omega
      go_enter Try.func28, Try.ntmps28
      go_wp2
      exact bodyPost_ret (v := .tuple #[.agg #[.slice A l.length c, .bool _, .bool _, .int .i64 ops], .int .i64 _]) (by simp [results, Try.results28, go_sem]) rfl ⟨rfl, (((Below.refl _ w).alloc (Nat.le_refl _) _).alloc (by simp) _).alloc (by simp; omega) _⟩
    have hb0 : 0 ≤ b := by omega
    have hb1 : b < (l.length : Int) := by omega
    by_cases hk0 : kind < 0
    · rw [ref_no (by cases hh : mayB l b kind with | false => rfl | true => obtain ⟨h0, h1, h2, h3, h4⟩ := may_iff.1 hh; first | omega | (exfalso; simp_all))]
      clear hC
      go_enter Try.func28, Try.ntmps28
      go_wp2
      exact bodyPost_ret (v := .tuple #[.agg #[.slice A l.length c, .bool _, .bool _, .int .i64 ops], .int .i64 _]) (by simp [results, Try.results28, go_sem]) rfl ⟨rfl, (((Below.refl _ w).alloc (Nat.le_refl _) _).alloc (by simp) _).alloc (by simp; omega) _⟩
    have hk0 : 0 ≤ kind := by omega
    by_cases hk1 : 2 < kind
    · rw [ref_no (by cases hh : mayB l b kind with | false => rfl | true => obtain ⟨h0, h1, h2, h3, h4⟩ := may_iff.1 hh; first | omega | (exfalso; simp_all))]
      clear hC
      go_enter Try.func28, Try.ntmps28
      go_wp2
      exact bodyPost_ret (v := .tuple #[.agg #[.slice A l.length c, .bool _, .bool _, .int .i64 ops], .int .i64 _]) (by simp [results, Try.results28, go_sem]) rfl ⟨rfl, (((Below.refl _ w).alloc (Nat.le_refl _) _).alloc (by simp) _).alloc (by simp; omega) _⟩
    have hk1 : kind ≤ 2 := by omega
    obtain ⟨ad, A0, c0, rfl, z0, z1, z2, z3, _, _⟩ := at_T44 (Kd.C_below hC ((((Below.refl _ w).alloc (Nat.le_refl _) (.cells #[.slice A l.length c, .bool br, .bool false, .int .i64 ops] 27)).alloc (by simp) (.cells #[.int .i64 kind, .string fd, .string ft, .int .i64 n] 41)).alloc (by simp; omega) (.cells #[.slice none 0 0, .bool false, .bool false, .int .i64 0] 27))) b hb0 (by omega)
    cases hbad : (rd_T44 l b).f3 with
    | true =>
      rw [ref_no (by cases hh : mayB l b kind with | false => rfl | true => obtain ⟨h0, h1, h2, h3, h4⟩ := may_iff.1 hh; first | omega | (exfalso; simp_all))]
      rw [hbad] at z3
      clear hC hbad
      go_enter Try.func28, Try.ntmps28
      go_wp2
      exact bodyPost_ret (v := .tuple #[.agg #[.slice (some ad) l.length c, .bool _, .bool _, .int .i64 ops], .int .i64 _]) (by simp [results, Try.results28, go_sem]) rfl ⟨rfl, (((Below.refl _ w).alloc (Nat.le_refl _) _).alloc (by simp) _).alloc (by simp; omega) _⟩
    | false =>
      rw [ref_ok (may_iff.2 ⟨hb0, hb1, hk0, hk1, hbad⟩)]
      rw [hbad] at z3
      clear hC hbad
      go_enter Try.func28, Try.ntmps28
      go_wp2
      exact bodyPost_ret (v := .tuple #[.agg #[.slice (some ad) l.length c, .bool _, .bool _, .int .i64 ops], .int .i64 _]) (by simp [results, Try.results28, go_sem]) rfl ⟨rfl, (((Below.refl _ w).alloc (Nat.le_refl _) _).alloc (by simp) _).alloc (by simp; omega) _⟩
end Go.Proofs.Ythjjngfbpoapnaa.X
