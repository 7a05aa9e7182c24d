/- The document's chip: Own, On. -/
import Derived.Test.YtfolonajajideaaChipErase
import Derived.Test.YtfolonajajideaaChipOwn
namespace Go.Proofs.Ytfolonajajideaa.X
open Go.RowKit Go.Proofs.Ytfolonajajideaa.PAll Go.Proofs.YtfolonajajideaaW.PrintWords Go.Proofs.YtfolonajajideaaW.PrintLast Go.Proofs.YtfolonajajideaaW.PrintMore
set_option linter.unusedVariables false
set_option linter.unusedSimpArgs false
theorem ownX_l0 (l : List Blk) (hs : sm l = true) (br off : Bool) (ops : Int) : ∀ (d i k : Nat), l.length - i = d → i ≤ l.length → d < k → ownX.l0 k (l.take i) (i : Int) l br off ops = some (l, br, off, ops) := by
  obtain ⟨hl, hall⟩ := sm_iff.1 hs
  intro d
  induction d with
  | zero =>
    intro i k hd hi hk
    obtain ⟨k, rfl⟩ : ∃ m, k = m + 1 := ⟨k - 1, by omega⟩
    rw [ownX.l0, if_neg (by omega), List.take_of_length_le (by omega)]
  | succ d ih =>
    intro i k hd hi hk
    obtain ⟨k, rfl⟩ : ∃ m, k = m + 1 := ⟨k - 1, by omega⟩
    have hil : i < l.length := by omega
    have hx : rd_T62 l (i : Int) = l[i] := by
      show l.getD (i : Int).toNat zB = _
      rw [Int.toNat_natCast, List.getD_eq_getElem?_getD, List.getElem?_eq_getElem hil]
      rfl
    have hp := hall _ (List.getElem_mem hil)
    have hw : wrap64 ((i : Int) + 1) = ((i + 1 : Nat) : Int) := by rw [wrap64_in (by omega) (by omega)]; omega
    rw [ownX.l0, if_pos (by omega), if_pos (by omega), hx, if_pos (by simp; omega), if_pos (by simp; omega), hw, List.nil_append]
    have e : l.take i ++ [(⟨l[i].f0, l[i].f1, l[i].f2, l[i].f3⟩ : Blk)] = l.take (i + 1) := by
      rw [List.take_succ_eq_append_getElem hil]
    rw [e]
    exact ih (i + 1) k (by omega) (by omega) (by omega)
theorem own_f (l : List Blk) (hs : sm l = true) (br off : Bool) (ops : Int) : ownX.f (l.length + 1) l br off ops = some (l, br, off, ops) := by
  have := ownX_l0 l hs br off ops l.length 0 (l.length + 1) (by omega) (by omega) (by omega)
  simpa [ownX.f] using this
/-- Own: the same chip, in memory of its own. -/
theorem own_any (A : Option Addr) (c : Nat) (l : List Blk) (br off : Bool) (ops : Int) (w0 w : World) (hC : Kd.C kB w0 A l.length l) (hb : Below w0.heap.size w0 w) (hc : l.length ≤ c) (hs : sm l = true) :
    Calls Try.prog 39 #[.agg #[.slice A l.length c, .bool br, .bool off, .int .i64 ops]] w fun e w' => ∃ v0 : Value, e = .returned (.agg #[v0, .bool br, .bool off, .int .i64 ops]) ∧ Kd.S kB 62 w' w.heap.size (fun _ => True) v0 l ∧ Below w.heap.size w w' :=
  ownX.calls (l.length + 1) A c l br off ops l br off ops w (Kd.C_below hC hb) hc (own_f l hs br off ops)
theorem S_C {W : World} {base : Nat} {ok : Nat → Prop} {v : Value} {l : List Blk} (h : Kd.S kB 62 W base ok v l) : ∃ A c, v = .slice A l.length c ∧ l.length ≤ c ∧ Kd.C kB W A l.length l := Kd.S_reads h
/-- A chip of one's own, of which a block is laid open. -/
theorem Held.of_S {W : World} {base : Nat} {v : Value} {l : List Blk} {b : Nat} {x : Blk} (h : Kd.S kB 62 W base (fun _ => True) v l) (hs : sm l = true) (hx : l[b]? = some x) :
    ∃ (ok : Nat → Prop) (g g2 cap : Nat) (A2 : Option Addr) (c2 : Nat), v = .slice (some ⟨g, 0, none⟩) l.length cap ∧ l.length ≤ cap ∧ base ≤ g ∧ base ≤ g2 ∧ (g2 < W.heap.size ∨ W.heap.size + 1000 ≤ g2) ∧ g < W.heap.size ∧ (∀ k, ok k → base ≤ k ∧ k < W.heap.size) ∧ Held W ok g g2 l b A2 c2 x.f0 x.f1 x.f2 x.f3 := by
  obtain ⟨hl, hall⟩ := sm_iff.1 hs
  have hbl : b < l.length := (List.getElem?_eq_some_iff.1 hx).1
  obtain ⟨g, cap, rfl, hg, hgl, cur, hh⟩ := Kd.S_form h (by omega)
  have hcap : l.length ≤ cap := (Kd.S_reads' h).2.1
  obtain ⟨oki, cb, hcl, hM, hcc, hoki, hH⟩ := Kd.S_lend (Kd.S_bound h) zB (b : Int) (by omega) (by omega)
  have hxb : l.getD (b : Int).toNat zB = x := by rw [Int.toNat_natCast, List.getD_eq_getElem?_getD, hx]; rfl
  rw [hxb] at hM
  simp only [Int.toNat_natCast] at hcc hH
  obtain ⟨v0, rfl, hR⟩ := k62_openM hM
  have hps : x.f0.length ≤ 1000000 := hall _ (List.mem_of_getElem? hx)
  have cells : ∀ i u, ([v0, Value.int .i64 x.f1, Value.int .i64 x.f2, Value.bool x.f3] : List Value)[i]? = some u → cur[b * 4 + i]? = some u := fun i u hu => by
    have h1 := hcc i u hu
    rw [blk_cell hh] at h1
    exact h1
  obtain ⟨_, f, _, inner, ho, hr⟩ := hH
  rw [List.length_zipIdx] at ho
  rcases ho.2 with ⟨hv, _⟩ | ⟨g', cap', cur', hv, hg', hh', hc', _, hs', ht'⟩
  · cases hv
  cases hv
  rw [hh] at hh'
  injection hh' with hh'
  injection hh' with hh' _
  subst hh'
  have oth : ∀ j y, j ≠ b → l[j]? = some y → ∃ c, c.length = 4 ∧ (∀ i u, c[i]? = some u → cur[j * 4 + i]? = some u) ∧ Kd.FK kB W (fun k => (base ≤ k ∧ k < W.heap.size) ∧ ¬ oki k ∧ k ≠ g) y c := fun j y hj hy => by
    have hz := hr.2 j (y, j) (Kd.zip_at hy)
    have hM2 := hz.2 (by simpa using hj)
    have hlen : inner.length = l.length * 4 := by have := hr.1; rw [List.length_zipIdx] at this; exact this
    have hjl : j < l.length := (List.getElem?_eq_some_iff.1 hy).1
    refine ⟨(inner.drop (j * 4)).take 4, by rw [List.length_take, List.length_drop]; omega, fun i u hu => take_at (sz := 4) ht' hu, Kd.FK_mono (Kd.FK_of_M hM2) (fun k hk => ?_)⟩
    obtain ⟨⟨⟨⟨_, h1, h2, _⟩, h3⟩, h4⟩, _⟩ := hk
    exact ⟨⟨h1, h2⟩, h3, fun he => h4 (by rw [he]; simp [Value.ownBlock])⟩
  have e0 := cells 0 _ rfl
  have e1 := cells 1 _ rfl
  have e2 := cells 2 _ rfl
  have e3 := cells 3 _ rfl
  obtain ⟨A2, c2, rfl, hc2, _⟩ := Kd.R_reads hR
  rcases Nat.eq_zero_or_pos x.f0.length with hz | hpos
  · refine ⟨_, g, W.heap.size + 1000, cap, A2, c2, rfl, hcap, hg, by omega, .inr (Nat.le_refl _), hgl, fun k hk => hk.1, ⟨by omega, hbl, hl, hc2, hps, fun k hk => ⟨hk.2.2, by have := hk.1.2; omega⟩, ⟨cur, hh, e0, e1, e2, e3, oth⟩, fun hp => by omega⟩⟩
  · obtain ⟨g2, cap2, cur2, hv2, hg2, hok2, _, hh2, hat2⟩ := R_open hR hpos
    cases hv2
    have hoki2 := hoki g2 hok2
    refine ⟨_, g, g2, cap, _, c2, rfl, hcap, hg, hg2, .inl (blk_lt hh2), hgl, fun k hk => hk.1, ⟨fun he => hoki2.2 he.symm, hbl, hl, hc2, hps, fun k hk => ⟨hk.2.2, fun he => hk.2.1 (by rw [he]; exact hok2)⟩, ⟨cur, hh, e0, e1, e2, e3, oth⟩, fun _ => ⟨rfl, cur2, hh2, fun j p hj => ?_⟩⟩⟩
    obtain ⟨c, _, hMp, hcp⟩ := hat2 j p hj
    have hk := k54_open (kP.K_of_M hMp)
    subst hk
    exact ⟨hcp 0 _ rfl, hcp 1 _ rfl, hcp 2 _ rfl⟩

set_option maxHeartbeats 2000000 in
set_option maxRecDepth 100000 in
/-- broken: the contract was violated. -/
theorem broken_any (A : Option Addr) (c : Nat) (l : List Blk) (br off : Bool) (ops : Int) (w0 w : World) (hC : Kd.C kB w0 A l.length l) (hb : Below w0.heap.size w0 w) (hc : l.length ≤ c) (hs : sm l = true) :
    Calls Try.prog 40 #[.agg #[.slice A l.length c, .bool br, .bool off, .int .i64 ops]] w fun e w' => ∃ (A1 : Option Addr) (c1 : Nat), e = .returned (.tuple #[.agg #[.slice A1 l.length c1, .bool true, .bool off, .int .i64 ops], .int .i64 1]) ∧ l.length ≤ c1 ∧ Kd.S kB 62 w' w.heap.size (fun _ => True) (.slice A1 l.length c1) l ∧ Below w.heap.size w w' := by
  obtain ⟨W0, hW⟩ : ∃ W0 : World, (w.alloc (.cells #[.slice A l.length c, .bool br, .bool off, .int .i64 ops] 32)).alloc (.cells #[.slice none 0 0, .bool false, .bool false, .int .i64 0] 32) = W0 := ⟨_, rfl⟩
  have hB0 : Below w.heap.size w W0 := by rw [← hW]; exact ((Below.refl _ w).alloc (Nat.le_refl _) _).alloc (by simp) _
  have hk1 : W0.heap[w.heap.size + 1]? = some (.cells #[.slice none 0 0, .bool false, .bool false, .int .i64 0] 32 (0, 0)) := by rw [← hW]; have := alloc_at (w.alloc (.cells #[.slice A l.length c, .bool br, .bool off, .int .i64 ops] 32)) (.cells #[.slice none 0 0, .bool false, .bool false, .int .i64 0] 32); simpa using this
  have OW := Aside0.mk (own_any A c l br off ops w0 W0 hC (below_step hb hB0) hc hs)
  have HS0 := Aside0.mk (show W0.heap.size = w.heap.size + 2 by rw [← hW]; simp)
  have HW := Aside0.mk hW
  have HB0 := Aside0.mk hB0
  have HK1 := Aside0.mk hk1
  clear hC hb hc hs hW hB0 hk1
  go_enter Try.func40, Try.ntmps40
  go_wp2_with (first
    | (go_at_call 39; rw [HW.out]; refine OW.out.mono ?_; rintro e w1 ⟨v0, rfl, hS, hb1⟩; obtain ⟨ok, hSR⟩ : ∃ ok, Kd.S kB 62 w1 W0.heap.size ok v0 l ∧ ∀ k, ok k → W0.heap.size ≤ k := ⟨_, Kd.S_bound hS, fun k hk => hk.2.1⟩; obtain ⟨A1, c1, rfl, hc1, hC1⟩ := S_C hS; have q1 := (hb1.block _ (blk_lt HK1.out)).trans HK1.out; have q2 := blk_alloc q1 (.cells #[.slice A1 l.length c1, .bool true, .bool off, .int .i64 ops] 32); obtain ⟨z0, z1, z2, z3, y0, y1, y2, y3⟩ := blk4 q2; have n1 : ¬ w1.heap.size = w.heap.size + 1 := (by have := blk_lt q1; omega); have n2 : ¬ w.heap.size + 1 = w1.heap.size := (by have := blk_lt q1; omega); have HSR := Aside0.mk hSR; have HB1 := Aside0.mk hb1; have HQ1 := Aside0.mk q1; clear hS hC1 hb1 q1 hSR q2))
  have hs0 := HS0.out
  have hB2 := below_step HB0.out HB1.out
  have hB3 := hB2.alloc hB2.size (.cells #[.slice A1 l.length c1, .bool true, .bool off, .int .i64 ops] 32)
  have hbw := below4 hB3 (show w.heap.size ≤ w.heap.size + 1 by omega) (.slice A1 l.length c1) (.bool true) (.bool off) (.int .i64 ops)
  have hS2 := Kd.S_step (Kd.S_alloc HSR.out.1 (.cells #[.slice A1 l.length c1, .bool true, .bool off, .int .i64 ops] 32)) (fun k hk _ => far4 _ (w.heap.size + 1) (.slice A1 l.length c1) (.bool true) (.bool off) (.int .i64 ops) (show k ≠ w.heap.size + 1 by have := HSR.out.2 k hk; omega))
  exact bodyPost_ret (results_ct rfl _ _ (w.heap.size + 1) 32 #[.slice A1 l.length c1, .bool true, .bool off, .int .i64 ops] (0, 0) _ rfl (put4 (blk_alloc HQ1.out _) _ _ _ _) Try.underlying32 rfl (by kernel_rfl)) rfl ⟨A1, c1, rfl, hc1, Kd.S_mono (Kd.S_lower hS2 (by omega)) (fun _ _ => trivial), hbw⟩
end Go.Proofs.Ytfolonajajideaa.X
