/- The document's Erase. -/
import Derived.Test.YtfolonajajideaaChipRProg
namespace Go.Proofs.Ytfolonajajideaa.X
open Go.RowKit Go.Proofs.Ytfolonajajideaa.PAll Go.Proofs.YtfolonajajideaaW.PrintWords Go.Proofs.YtfolonajajideaaW.PrintLast Go.Proofs.YtfolonajajideaaW.PrintMore
set_option linter.unusedVariables false
set_option linter.unusedSimpArgs false
theorem wipe_set {ps : List Pg} {k m : Nat} (h : k < m) (hk : k < ps.length) : (List.replicate (min k m) zP ++ ps.drop (min k m)).set k zP = List.replicate (min (k + 1) m) zP ++ ps.drop (min (k + 1) m) := by
  rw [Nat.min_eq_left (by omega), Nat.min_eq_left (by omega), List.set_append_right _ _ (by simp), List.length_replicate, Nat.sub_self, List.drop_eq_getElem_cons hk, List.set_cons_zero, List.replicate_succ', List.append_assoc]
  rfl
theorem wipe_keep {ps : List Pg} {k m : Nat} (h : ¬ k < m) : List.replicate (min k m) zP ++ ps.drop (min k m) = List.replicate (min (k + 1) m) zP ++ ps.drop (min (k + 1) m) := by
  rw [Nat.min_eq_right (by omega), Nat.min_eq_right (by omega)]
theorem wipe_at {ps : List Pg} {k m : Nat} (hk : k < ps.length) : ∃ q, (List.replicate (min k m) zP ++ ps.drop (min k m))[k]? = some q := ⟨_, List.getElem?_eq_getElem (by simp; omega)⟩

set_option maxHeartbeats 2000000 in
set_option maxRecDepth 100000 in
/-- Off. -/
theorem rera_off (A : Option Addr) (c : Nat) (l : List Blk) (br : Bool) (ops b kind : Int) (fd ft : ByteArray) (n : Int) (P : Nat → Prop) (w : World) (hC : Kd.C kB w A l.length l) (hc : l.length ≤ c) (hs : sm l = true) :
    Calls Try.prog 25 #[.agg #[.slice A l.length c, .bool br, .bool true, .int .i64 ops], .int .i64 b, .agg #[.int .i64 kind, .string fd, .string ft, .int .i64 n]] w fun e1 w' => Out P w w' e1 (l, br, true, ops, 52) := by
  obtain ⟨W0, hW, hF, hB, hS⟩ := three_start w (.slice A l.length c) br true ops kind fd ft n
  have OW := Aside0.mk (own_any A c l br true ops w W0 hC hB hc hs)
  have HC := Aside0.mk hC
  have HW := Aside0.mk hW
  have HF := Aside0.mk hF
  have HB := Aside0.mk hB
  have HS := Aside0.mk hS
  clear hC hW hF hB hS hs hc
  go_enter Try.func25, Try.ntmps25
  go_wp2_with (first
    | (go_at_call 39; rw [HW.out]; refine OW.out.mono ?_; rintro e1 w1 ⟨v0, rfl, hSS, hb⟩; obtain ⟨ok, hSR⟩ : ∃ ok, Kd.S kB 62 w1 W0.heap.size ok v0 l ∧ ∀ k, ok k → W0.heap.size ≤ k := ⟨_, Kd.S_bound hSS, fun k hk => hk.2.1⟩; obtain ⟨A1, c1, rfl, hc1, hC1⟩ := S_C hSS; have hf := HF.out.below hb; obtain ⟨za0, za1, za2, za3, ya0, ya1, ya2, ya3⟩ := blk4 hf.chip; obtain ⟨zc0, zc1, zc2, zc3, yc0, yc1, yc2, yc3⟩ := blk4 hf.fate; obtain ⟨zd0, zd1, zd2, zd3, yd0, yd1, yd2, yd3⟩ := blk4 hf.ret; have HB1 := Aside0.mk hb; have HF1 := Aside0.mk hf; have HSR := Aside0.mk hSR; clear hf hb hC1 hSS hSR))
  have hs0 := HS.out
  have hf2 := HF1.out.putR (.slice A1 l.length c1) (.bool br) (.bool true) (.int .i64 ops)
  have hbw := below4 (below_step HB.out HB1.out) (show w.heap.size ≤ w.heap.size + 1 + 1 by omega) (.slice A1 l.length c1) (.bool br) (.bool true) (.int .i64 ops)
  have hS2 := Kd.S_step HSR.out.1 (fun k hk _ => far4 _ (w.heap.size + 1 + 1) (.slice A1 l.length c1) (.bool br) (.bool true) (.int .i64 ops) (show k ≠ w.heap.size + 1 + 1 by have := HSR.out.2 k hk; omega))
  exact bodyPost_ret (results_ct rfl _ _ (w.heap.size + 1 + 1) 32 #[.slice A1 l.length c1, .bool br, .bool true, .int .i64 ops] (0, 0) _ rfl hf2.ret Try.underlying32 rfl (by kernel_rfl)) rfl ⟨A1, c1, rfl, hc1, Kd.F_mono (Kd.S_F hS2) (fun k hk => .inr (by have := HSR.out.2 k hk; omega)), hbw⟩
set_option maxHeartbeats 2000000 in
set_option maxRecDepth 100000 in
/-- A contract that was violated. -/
theorem rera_broken (A : Option Addr) (c : Nat) (l : List Blk) (br : Bool) (ops b kind : Int) (fd ft : ByteArray) (n : Int) (P : Nat → Prop) (w : World) (hC : Kd.C kB w A l.length l) (hc : l.length ≤ c) (hs : sm l = true) (hw : mayB l b kind = false) :
    Calls Try.prog 25 #[.agg #[.slice A l.length c, .bool br, .bool false, .int .i64 ops], .int .i64 b, .agg #[.int .i64 kind, .string fd, .string ft, .int .i64 n]] w fun e1 w' => Out P w w' e1 (l, true, false, ops, 1) := by
  have hcase : b < 0 ∨ (0 ≤ b ∧ (l.length : Int) ≤ b) ∨ ((0 ≤ b ∧ b < l.length) ∧ ((rdB l b).f3 = true ∨ ((rdB l b).f3 = false ∧ (kind < 0 ∨ (0 ≤ kind ∧ 2 < kind))))) := by
    by_cases b0 : b < 0
    · exact .inl b0
    refine .inr ?_
    by_cases b1 : (l.length : Int) ≤ b
    · exact .inl ⟨by omega, b1⟩
    refine .inr ⟨⟨by omega, by omega⟩, ?_⟩
    cases h3 : (rdB l b).f3 with
    | true => exact .inl rfl
    | false =>
      refine .inr ⟨rfl, ?_⟩
      by_cases k0 : kind < 0
      · exact .inl k0
      refine .inr ⟨by omega, ?_⟩
      by_cases k1 : 2 < kind
      · exact k1
      · exfalso
        rw [may_iff.2 ⟨by omega, by omega, by omega, by omega, h3⟩] at hw
        cases hw
  clear hw
  obtain ⟨W0, hW, hF, hB, hS⟩ := three_start w (.slice A l.length c) br false ops kind fd ft n
  have BK := Aside0.mk (broken_any A c l br false ops w W0 hC hB hc hs)
  have HC := Aside0.mk hC
  have HW := Aside0.mk hW
  have HF := Aside0.mk hF
  have HB := Aside0.mk hB
  have HS := Aside0.mk hS
  have hlm : l.length ≤ 9223372036854775807 := hC.2.1
  rcases hcase with h | ⟨h, h'⟩ | ⟨⟨h0, h1⟩, hcase⟩
  · clear hC hW hF hB hS hs hc
    go_enter Try.func25, Try.ntmps25
    go_wp2_with (first | (go_at_call 40; rw [HW.out]; refine BK.out.mono ?_; rintro e2 w2 ⟨A1, c1, rfl, hc1, hS2, hb2⟩; obtain ⟨ok, hSR⟩ : ∃ ok, Kd.S kB 62 w2 W0.heap.size ok (.slice A1 l.length c1) l ∧ ∀ k, ok k → W0.heap.size ≤ k := ⟨_, Kd.S_bound hS2, fun k hk => hk.2.1⟩; have hf := HF.out.below hb2; obtain ⟨za0, za1, za2, za3, ya0, ya1, ya2, ya3⟩ := blk4 hf.chip; obtain ⟨zc0, zc1, zc2, zc3, yc0, yc1, yc2, yc3⟩ := blk4 hf.fate; obtain ⟨zd0, zd1, zd2, zd3, yd0, yd1, yd2, yd3⟩ := blk4 hf.ret; have HB2 := Aside0.mk hb2; have HF2 := Aside0.mk hf; have HSR := Aside0.mk hSR; clear hS2 hSR hb2 hf))
    have hs0 := HS.out
    have hf2 := HF2.out.putR (.slice A1 l.length c1) (.bool true) (.bool false) (.int .i64 ops)
    have hbw := below4 (below_step HB.out HB2.out) (show w.heap.size ≤ w.heap.size + 1 + 1 by omega) (.slice A1 l.length c1) (.bool true) (.bool false) (.int .i64 ops)
    have hS2 := Kd.S_step HSR.out.1 (fun k hk _ => far4 _ (w.heap.size + 1 + 1) (.slice A1 l.length c1) (.bool true) (.bool false) (.int .i64 ops) (show k ≠ w.heap.size + 1 + 1 by have := HSR.out.2 k hk; omega))
    exact bodyPost_ret (results_ct rfl _ _ (w.heap.size + 1 + 1) 32 #[.slice A1 l.length c1, .bool true, .bool false, .int .i64 ops] (0, 0) _ rfl hf2.ret Try.underlying32 rfl (by kernel_rfl)) rfl ⟨A1, c1, rfl, hc1, Kd.F_mono (Kd.S_F hS2) (fun k hk => .inr (by have := HSR.out.2 k hk; omega)), hbw⟩
  · clear hC hW hF hB hS hs hc
    go_enter Try.func25, Try.ntmps25
    go_wp2_with (first | (go_at_call 40; rw [HW.out]; refine BK.out.mono ?_; rintro e2 w2 ⟨A1, c1, rfl, hc1, hS2, hb2⟩; obtain ⟨ok, hSR⟩ : ∃ ok, Kd.S kB 62 w2 W0.heap.size ok (.slice A1 l.length c1) l ∧ ∀ k, ok k → W0.heap.size ≤ k := ⟨_, Kd.S_bound hS2, fun k hk => hk.2.1⟩; have hf := HF.out.below hb2; obtain ⟨za0, za1, za2, za3, ya0, ya1, ya2, ya3⟩ := blk4 hf.chip; obtain ⟨zc0, zc1, zc2, zc3, yc0, yc1, yc2, yc3⟩ := blk4 hf.fate; obtain ⟨zd0, zd1, zd2, zd3, yd0, yd1, yd2, yd3⟩ := blk4 hf.ret; have HB2 := Aside0.mk hb2; have HF2 := Aside0.mk hf; have HSR := Aside0.mk hSR; clear hS2 hSR hb2 hf))
    have hs0 := HS.out
    have hf2 := HF2.out.putR (.slice A1 l.length c1) (.bool true) (.bool false) (.int .i64 ops)
    have hbw := below4 (below_step HB.out HB2.out) (show w.heap.size ≤ w.heap.size + 1 + 1 by omega) (.slice A1 l.length c1) (.bool true) (.bool false) (.int .i64 ops)
    have hS2 := Kd.S_step HSR.out.1 (fun k hk _ => far4 _ (w.heap.size + 1 + 1) (.slice A1 l.length c1) (.bool true) (.bool false) (.int .i64 ops) (show k ≠ w.heap.size + 1 + 1 by have := HSR.out.2 k hk; omega))
    exact bodyPost_ret (results_ct rfl _ _ (w.heap.size + 1 + 1) 32 #[.slice A1 l.length c1, .bool true, .bool false, .int .i64 ops] (0, 0) _ rfl hf2.ret Try.underlying32 rfl (by kernel_rfl)) rfl ⟨A1, c1, rfl, hc1, Kd.F_mono (Kd.S_F hS2) (fun k hk => .inr (by have := HSR.out.2 k hk; omega)), hbw⟩
  · obtain ⟨ad, A0, c0, hq, z15, z16, z17, z18, _, _⟩ := at_T62 (Kd.C_below hC ((((Below.refl _ w).alloc (Nat.le_refl _) (.cells #[.slice A l.length c, .bool br, .bool false, .int .i64 ops] 32)).alloc (by simp) (.cells #[.int .i64 kind, .string fd, .string ft, .int .i64 n] 57)).alloc (by simp; omega) (.cells #[.slice none 0 0, .bool false, .bool false, .int .i64 0] 32))) b h0 (by omega)
    subst hq
    obtain ⟨x, hxx⟩ : ∃ x, rdB l b = x := ⟨_, rfl⟩
    rw [hxx] at hcase
    rw [show rd_T62 l b = x from hxx] at z15 z16 z17 z18
    clear hC hW hF hB hS hs hc hxx
    rcases hcase with h3 | ⟨h3, hk | ⟨hk, hk2⟩⟩
    all_goals
      rw [h3] at z18
      go_enter Try.func25, Try.ntmps25
      go_wp2_with (first | (go_at_call 40; rw [HW.out]; refine BK.out.mono ?_; rintro e2 w2 ⟨A1, c1, rfl, hc1, hS2, hb2⟩; obtain ⟨ok, hSR⟩ : ∃ ok, Kd.S kB 62 w2 W0.heap.size ok (.slice A1 l.length c1) l ∧ ∀ k, ok k → W0.heap.size ≤ k := ⟨_, Kd.S_bound hS2, fun k hk => hk.2.1⟩; have hf := HF.out.below hb2; obtain ⟨za0, za1, za2, za3, ya0, ya1, ya2, ya3⟩ := blk4 hf.chip; obtain ⟨zc0, zc1, zc2, zc3, yc0, yc1, yc2, yc3⟩ := blk4 hf.fate; obtain ⟨zd0, zd1, zd2, zd3, yd0, yd1, yd2, yd3⟩ := blk4 hf.ret; have HB2 := Aside0.mk hb2; have HF2 := Aside0.mk hf; have HSR := Aside0.mk hSR; clear hS2 hSR hb2 hf))
      have hs0 := HS.out
      have hf2 := HF2.out.putR (.slice A1 l.length c1) (.bool true) (.bool false) (.int .i64 ops)
      have hbw := below4 (below_step HB.out HB2.out) (show w.heap.size ≤ w.heap.size + 1 + 1 by omega) (.slice A1 l.length c1) (.bool true) (.bool false) (.int .i64 ops)
      have hS2 := Kd.S_step HSR.out.1 (fun k hk _ => far4 _ (w.heap.size + 1 + 1) (.slice A1 l.length c1) (.bool true) (.bool false) (.int .i64 ops) (show k ≠ w.heap.size + 1 + 1 by have := HSR.out.2 k hk; omega))
      exact bodyPost_ret (results_ct rfl _ _ (w.heap.size + 1 + 1) 32 #[.slice A1 l.length c1, .bool true, .bool false, .int .i64 ops] (0, 0) _ rfl hf2.ret Try.underlying32 rfl (by kernel_rfl)) rfl ⟨A1, c1, rfl, hc1, Kd.F_mono (Kd.S_F hS2) (fun k hk => .inr (by have := HSR.out.2 k hk; omega)), hbw⟩

set_option maxHeartbeats 2000000 in
set_option maxRecDepth 100000 in
/-- .. that fails. -/
theorem rera_fail (A : Option Addr) (c : Nat) (l : List Blk) (br : Bool) (ops b kind : Int) (fd ft : ByteArray) (n : Int) (P : Nat → Prop) (w : World) (hC : Kd.C kB w A l.length l) (hc : l.length ≤ c) (hs : sm l = true) (hm : mayB l b kind = true) (hk : kind = 1) :
    Calls Try.prog 25 #[.agg #[.slice A l.length c, .bool br, .bool false, .int .i64 ops], .int .i64 b, .agg #[.int .i64 kind, .string fd, .string ft, .int .i64 n]] w fun e1 w' =>
      Out P w w' e1 (l.set b.toNat ⟨(rdB l b).f0, (rdB l b).f1, (rdB l b).f2, true⟩, br, false, wrap64 (ops + 1), 53) := by
  obtain ⟨hl, hall⟩ := sm_iff.1 hs
  obtain ⟨h0, h1, h2, h3, h4⟩ := may_iff.1 hm
  obtain ⟨W0, hW, hF, hB, hS⟩ := three_start w (.slice A l.length c) br false ops kind fd ft n
  have HSM := Aside0.mk hs
  have HC := Aside0.mk hC
  have HW := Aside0.mk hW
  have HF := Aside0.mk hF
  have HB := Aside0.mk hB
  have HS := Aside0.mk hS
  have hlm : l.length ≤ 9223372036854775807 := hC.2.1
  obtain ⟨ad, A0, c0, hq, z15, z16, z17, z18, _, _⟩ := at_T62 (Kd.C_below hC ((((Below.refl _ w).alloc (Nat.le_refl _) (.cells #[.slice A l.length c, .bool br, .bool false, .int .i64 ops] 32)).alloc (by simp) (.cells #[.int .i64 kind, .string fd, .string ft, .int .i64 n] 57)).alloc (by simp; omega) (.cells #[.slice none 0 0, .bool false, .bool false, .int .i64 0] 32))) b h0 (by omega)
  subst hq
  have hx := rdB_at h0 h1
  have hp6 := hall _ (List.mem_of_getElem? hx)
  obtain ⟨x, hxx⟩ : ∃ x, rdB l b = x := ⟨_, rfl⟩
  rw [show rd_T62 l b = x from hxx] at z15 z16 z17 z18
  have h5 : x.f3 = false := by rw [← hxx]; exact h4
  rw [h5] at z18
  rw [hxx] at hx hp6 ⊢
  have HX := Aside0.mk hx
  have H5 := Aside0.mk h5
  have OW := Aside0.mk (own_any (some ad) c l br false ops w W0 hC hB hc hs)
  clear hC hW hF hB hS hs hc hxx hm h4 hall hx h5
  subst hk
  go_enter Try.func25, Try.ntmps25
  go_upto_region 6 with (first
    | (go_at_call 39; rw [HW.out]; refine OW.out.mono ?_; rintro e2 w2 ⟨v0, rfl, hS2, hb2⟩; obtain ⟨ok, g, g2, cap, A2, c2, rfl, hcap, hg, hg2, hgg2, hgl, hok, hH⟩ := Held.of_S hS2 HSM.out HX.out; have HGS := Aside0.mk (show (W0.heap.size ≤ g ∧ W0.heap.size ≤ g2 ∧ (g2 < w2.heap.size ∨ w2.heap.size + 1000 ≤ g2) ∧ g < w2.heap.size) ∧ ∀ k, ok k → W0.heap.size ≤ k ∧ k < w2.heap.size from ⟨⟨hg, hg2, hgg2, hgl⟩, hok⟩); have HH2 := Aside0.mk hH; have HB2 := Aside0.mk hb2; have HF2 := Aside0.mk (HF.out.below hb2); clear z15 z16 z17 z18 hg hg2 hgg2 hgl hok hH hb2 hS2; have hf := HF2.out; obtain ⟨za0, za1, za2, za3, ya0, ya1, ya2, ya3⟩ := blk4 hf.chip; obtain ⟨zc0, zc1, zc2, zc3, yc0, yc1, yc2, yc3⟩ := blk4 hf.fate; obtain ⟨zd0, zd1, zd2, zd3, yd0, yd1, yd2, yd3⟩ := blk4 hf.ret; clear hf))
  have hs0 := HS.out
  obtain ⟨⟨q1, q2, q3, q4⟩, hok⟩ := HGS.out
  have hs2 := HB2.out.size
  have hbo := below_step HB.out HB2.out
  have ho := alloc_at w2 (.cells #[(.slice (some ⟨g, 0, none⟩) l.length cap), .bool br, .bool false, .int .i64 ops] 32)
  have hf := HF2.out.below (below_alloc (Below.refl _ _) (.cells #[(.slice (some ⟨g, 0, none⟩) l.length cap), .bool br, .bool false, .int .i64 ops] 32))
  have hh := HH2.out.alloc (.cells #[(.slice (some ⟨g, 0, none⟩) l.length cap), .bool br, .bool false, .int .i64 ops] 32)
  have hb := below_alloc hbo (.cells #[(.slice (some ⟨g, 0, none⟩) l.length cap), .bool br, .bool false, .int .i64 ops] 32)
  have R1 := Aside0.mk (show w.heap.size + 3 ≤ g ∧ w.heap.size + 3 ≤ g2 by omega)
  clear za0 za1 za2 za3 ya0 ya1 ya2 ya3 zc0 zc1 zc2 zc3 yc0 yc1 yc2 yc3 zd0 zd1 zd2 zd3 yd0 yd1 yd2 yd3
  generalize w2.alloc (.cells #[(.slice (some ⟨g, 0, none⟩) l.length cap), .bool br, .bool false, .int .i64 ops] 32) = W2 at hf ho hh hb ⊢
  have R5 := Aside0.mk (show ∀ k, ok k → w.heap.size + 3 ≤ k ∧ k < w2.heap.size from fun k hk => ⟨by have := (hok k hk).1; omega, (hok k hk).2⟩)
  have R2 := Aside0.mk (show g < w2.heap.size from q4)
  have R3 := Aside0.mk (show g2 ≠ w2.heap.size by omega)
  have R4 := Aside0.mk (show w.heap.size + 3 ≤ w2.heap.size by omega)
  clear hs0 hs2 hbo HF2 HB2 HF HH2 q1 q2 q3 q4 hok HGS
  generalize w2.heap.size = Bo at *
  obtain ⟨za0, za1, za2, za3, ya0, ya1, ya2, ya3⟩ := blk4 hf.chip; obtain ⟨zc0, zc1, zc2, zc3, yc0, yc1, yc2, yc3⟩ := blk4 hf.fate; obtain ⟨zd0, zd1, zd2, zd3, yd0, yd1, yd2, yd3⟩ := blk4 hf.ret
  obtain ⟨zo0, zo1, zo2, zo3, yo0, yo1, yo2, yo3⟩ := blk4 ho
  obtain ⟨ze0, ze1, ze2, ze3, ye0, ye1, ye2, ye3⟩ := hh.cells
  have HF := Aside0.mk hf
  have HO := Aside0.mk ho
  have HH := Aside0.mk hh
  have HBW := Aside0.mk hb
  clear hf ho hh hb
  go_upto_region 7 with (fail)
  have hf := HF.out.far (fun k h1 h2 => Below.heap_setCell W2 ⟨Bo, 3, none⟩ (.int .i64 (wrap64 (ops + 1))) k (show k ≠ Bo by have := R4.out; have := R1.out; omega))
  have ho := blk_put HO.out 3 (.int .i64 (wrap64 (ops + 1))) rfl
  have hh := HH.out.far (p := ⟨Bo, 3, none⟩) (fun k hk => show k ≠ Bo by have := R5.out k hk; omega) (show Bo ≠ g by have := R1.out; have := R2.out; omega) (show Bo ≠ g2 by have := R1.out; have := R3.out; omega) (.int .i64 (wrap64 (ops + 1)))
  have hb := below_set (g := Bo) (j := 3) (v := .int .i64 (wrap64 (ops + 1))) (HBW.out) (by have := R4.out; have := R1.out; omega)
  clear za0 za1 za2 za3 ya0 ya1 ya2 ya3 zc0 zc1 zc2 zc3 yc0 yc1 yc2 yc3 zd0 zd1 zd2 zd3 yd0 yd1 yd2 yd3 zo0 zo1 zo2 zo3 yo0 yo1 yo2 yo3 ze0 ze1 ze2 ze3 ye0 ye1 ye2 ye3 HF HO HH HBW
  generalize W2.setCell ⟨Bo, 3, none⟩ (.int .i64 (wrap64 (ops + 1))) = W3 at hf ho hh hb ⊢
  obtain ⟨za0, za1, za2, za3, ya0, ya1, ya2, ya3⟩ := blk4 hf.chip; obtain ⟨zc0, zc1, zc2, zc3, yc0, yc1, yc2, yc3⟩ := blk4 hf.fate; obtain ⟨zd0, zd1, zd2, zd3, yd0, yd1, yd2, yd3⟩ := blk4 hf.ret
  obtain ⟨zo0, zo1, zo2, zo3, yo0, yo1, yo2, yo3⟩ := blk4 ho
  obtain ⟨ze0, ze1, ze2, ze3, ye0, ye1, ye2, ye3⟩ := hh.cells
  have HF := Aside0.mk hf
  have HO := Aside0.mk ho
  have HH := Aside0.mk hh
  have HBW := Aside0.mk hb
  clear hf ho hh hb
  go_upto_region 10 with (fail)
  have hf := HF.out.far (fun k h1 h2 => Below.heap_setCell W3 ⟨g, b.toNat * 4 + 3, none⟩ (.bool true) k (show k ≠ g by have := R4.out; have := R1.out; omega))
  have ho := (Below.heap_setCell W3 ⟨g, b.toNat * 4 + 3, none⟩ (.bool true) Bo (show Bo ≠ g by have := R4.out; have := R2.out; have := R3.out; omega)).trans HO.out
  have hh := HH.out.bad_ true
  have hb := below_set (g := g) (j := b.toNat * 4 + 3) (v := .bool true) (HBW.out) (by have := R4.out; have := R1.out; omega)
  clear za0 za1 za2 za3 ya0 ya1 ya2 ya3 zc0 zc1 zc2 zc3 yc0 yc1 yc2 yc3 zd0 zd1 zd2 zd3 yd0 yd1 yd2 yd3 zo0 zo1 zo2 zo3 yo0 yo1 yo2 yo3 ze0 ze1 ze2 ze3 ye0 ye1 ye2 ye3 HF HO HH HBW
  generalize W3.setCell ⟨g, b.toNat * 4 + 3, none⟩ (.bool true) = W4 at hf ho hh hb ⊢
  obtain ⟨za0, za1, za2, za3, ya0, ya1, ya2, ya3⟩ := blk4 hf.chip; obtain ⟨zc0, zc1, zc2, zc3, yc0, yc1, yc2, yc3⟩ := blk4 hf.fate; obtain ⟨zd0, zd1, zd2, zd3, yd0, yd1, yd2, yd3⟩ := blk4 hf.ret
  obtain ⟨zo0, zo1, zo2, zo3, yo0, yo1, yo2, yo3⟩ := blk4 ho
  obtain ⟨ze0, ze1, ze2, ze3, ye0, ye1, ye2, ye3⟩ := hh.cells
  have HF := Aside0.mk hf
  have HO := Aside0.mk ho
  have HH := Aside0.mk hh
  have HBW := Aside0.mk hb
  clear hf ho hh hb
  have rr := R4.out
  have n1 : ¬ Bo = w.heap.size + 1 + 1 := by omega
  have n2 : ¬ w.heap.size + 1 + 1 = Bo := by omega
  go_wp2
  have hf2 := HF.out.putR (.slice (some ⟨g, 0, none⟩) l.length cap) (.bool br) (.bool false) (.int .i64 (wrap64 (ops + 1)))
  have hh := HH.out.step (fun k hk _ => far4 _ (w.heap.size + 1 + 1) (.slice (some ⟨g, 0, none⟩) l.length cap) (.bool br) (.bool false) (.int .i64 (wrap64 (ops + 1))) (show k ≠ w.heap.size + 1 + 1 by have := R1.out; rcases hk with hk | hk | hk <;> first | (have := (R5.out k hk).1; omega) | omega))
  have hbw := below4 HBW.out (show w.heap.size ≤ w.heap.size + 1 + 1 by omega) (.slice (some ⟨g, 0, none⟩) l.length cap) (.bool br) (.bool false) (.int .i64 (wrap64 (ops + 1)))
  refine bodyPost_ret (results_ct rfl _ _ (w.heap.size + 1 + 1) 32 #[.slice (some ⟨g, 0, none⟩) l.length cap, .bool br, .bool false, .int .i64 (wrap64 (ops + 1))] (0, 0) _ rfl hf2.ret Try.underlying32 rfl (by kernel_rfl)) rfl ⟨some ⟨g, 0, none⟩, cap, ?_, by rw [List.length_set]; exact hcap, hh.out (by have := R1.out; omega) (by have := R1.out; omega) (fun k hk => .inr (by have := (R5.out k hk).1; omega)), hbw⟩
  rw [List.length_set]
  rfl
set_option maxHeartbeats 2000000 in
set_option maxRecDepth 100000 in
/-- .. done, or cut. -/
theorem rera_done (A : Option Addr) (c : Nat) (l : List Blk) (br : Bool) (ops b kind : Int) (fd ft : ByteArray) (n : Int) (P : Nat → Prop) (w : World) (hC : Kd.C kB w A l.length l) (hc : l.length ≤ c) (hs : sm l = true) (hm : mayB l b kind = true) (hk : kind = 0 ∨ kind = 2) :
    Calls Try.prog 25 #[.agg #[.slice A l.length c, .bool br, .bool false, .int .i64 ops], .int .i64 b, .agg #[.int .i64 kind, .string fd, .string ft, .int .i64 n]] w fun e1 w' =>
      Out P w w' e1 (l.set b.toNat (eraB (rdB l b) kind n), br, decide (kind = 2), wrap64 (ops + 1), if kind = 2 then 52 else 0) := by
  obtain ⟨hl, hall⟩ := sm_iff.1 hs
  obtain ⟨h0, h1, h2, h3, h4⟩ := may_iff.1 hm
  obtain ⟨W0, hW, hF, hB, hS⟩ := three_start w (.slice A l.length c) br false ops kind fd ft n
  have HSM := Aside0.mk hs
  have HC := Aside0.mk hC
  have HW := Aside0.mk hW
  have HF := Aside0.mk hF
  have HB := Aside0.mk hB
  have HS := Aside0.mk hS
  have hlm : l.length ≤ 9223372036854775807 := hC.2.1
  obtain ⟨ad, A0, c0, hq, z15, z16, z17, z18, _, _⟩ := at_T62 (Kd.C_below hC ((((Below.refl _ w).alloc (Nat.le_refl _) (.cells #[.slice A l.length c, .bool br, .bool false, .int .i64 ops] 32)).alloc (by simp) (.cells #[.int .i64 kind, .string fd, .string ft, .int .i64 n] 57)).alloc (by simp; omega) (.cells #[.slice none 0 0, .bool false, .bool false, .int .i64 0] 32))) b h0 (by omega)
  subst hq
  have hx := rdB_at h0 h1
  have hp6 := hall _ (List.mem_of_getElem? hx)
  obtain ⟨x, hxx⟩ : ∃ x, rdB l b = x := ⟨_, rfl⟩
  rw [show rd_T62 l b = x from hxx] at z15 z16 z17 z18
  have h5 : x.f3 = false := by rw [← hxx]; exact h4
  rw [h5] at z18
  rw [hxx] at hx hp6 ⊢
  have HX := Aside0.mk hx
  have H5 := Aside0.mk h5
  have OW := Aside0.mk (own_any (some ad) c l br false ops w W0 hC hB hc hs)
  clear hC hW hF hB hS hs hc hxx hm h4 hall hx h5
  obtain ⟨er, her⟩ : ∃ er, wrap64 (x.f2 + 1) = er := ⟨_, rfl⟩
  obtain ⟨m, hm⟩ : ∃ m : Nat, (eraN x kind n).toNat = m := ⟨_, rfl⟩
  unfold eraB
  rw [her, hm]
  have hmb : m ≤ x.f0.length ∧ ∀ k : Nat, k < x.f0.length → ((kind = 0 ∨ (k : Int) < n) ↔ k < m) := by
    have hf := upTo_facts (n := n) (k := (x.f0.length : Int)) (by omega)
    unfold eraN at hm
    rcases hk with rfl | rfl
    · rw [if_neg (by omega)] at hm
      exact ⟨by omega, fun k hk => by simp; omega⟩
    · rw [if_pos rfl] at hm
      unfold upTo at hm hf
      refine ⟨by omega, fun k hk => ?_⟩
      split at hm <;> split at hm <;> omega
  obtain ⟨hm1, hmk⟩ := hmb
  obtain ⟨ps', hps⟩ : ∃ ps', List.replicate m zP ++ x.f0.drop m = ps' := ⟨_, rfl⟩
  rw [hps]
  have HPS := Aside0.mk hps
  have HER := Aside0.mk her
  have HMK := Aside0.mk hmk
  have hlp : x.f0.length ≤ 9223372036854775807 := by omega
  clear her hm hps hmk
  have e1 : (kind == 1) = false := by rcases hk with rfl | rfl <;> rfl
  have HK := Aside0.mk hk
  go_enter Try.func25, Try.ntmps25
  go_upto_region 6 with (first
    | (go_at_call 39; rw [HW.out]; refine OW.out.mono ?_; rintro e2 w2 ⟨v0, rfl, hS2, hb2⟩; obtain ⟨ok, g, g2, cap, A2, c2, rfl, hcap, hg, hg2, hgg2, hgl, hok, hH⟩ := Held.of_S hS2 HSM.out HX.out; have HGS := Aside0.mk (show (W0.heap.size ≤ g ∧ W0.heap.size ≤ g2 ∧ (g2 < w2.heap.size ∨ w2.heap.size + 1000 ≤ g2) ∧ g < w2.heap.size) ∧ ∀ k, ok k → W0.heap.size ≤ k ∧ k < w2.heap.size from ⟨⟨hg, hg2, hgg2, hgl⟩, hok⟩); have HH2 := Aside0.mk hH; have HB2 := Aside0.mk hb2; have HF2 := Aside0.mk (HF.out.below hb2); clear z15 z16 z17 z18 hg hg2 hgg2 hgl hok hH hb2 hS2; have hf := HF2.out; obtain ⟨za0, za1, za2, za3, ya0, ya1, ya2, ya3⟩ := blk4 hf.chip; obtain ⟨zc0, zc1, zc2, zc3, yc0, yc1, yc2, yc3⟩ := blk4 hf.fate; obtain ⟨zd0, zd1, zd2, zd3, yd0, yd1, yd2, yd3⟩ := blk4 hf.ret; clear hf))
  have hs0 := HS.out
  obtain ⟨⟨q1, q2, q3, q4⟩, hok⟩ := HGS.out
  have hs2 := HB2.out.size
  have hbo := below_step HB.out HB2.out
  have ho := alloc_at w2 (.cells #[(.slice (some ⟨g, 0, none⟩) l.length cap), .bool br, .bool false, .int .i64 ops] 32)
  have hf := HF2.out.below (below_alloc (Below.refl _ _) (.cells #[(.slice (some ⟨g, 0, none⟩) l.length cap), .bool br, .bool false, .int .i64 ops] 32))
  have hh := HH2.out.alloc (.cells #[(.slice (some ⟨g, 0, none⟩) l.length cap), .bool br, .bool false, .int .i64 ops] 32)
  have hb := below_alloc hbo (.cells #[(.slice (some ⟨g, 0, none⟩) l.length cap), .bool br, .bool false, .int .i64 ops] 32)
  have R1 := Aside0.mk (show w.heap.size + 3 ≤ g ∧ w.heap.size + 3 ≤ g2 by omega)
  clear za0 za1 za2 za3 ya0 ya1 ya2 ya3 zc0 zc1 zc2 zc3 yc0 yc1 yc2 yc3 zd0 zd1 zd2 zd3 yd0 yd1 yd2 yd3
  generalize w2.alloc (.cells #[(.slice (some ⟨g, 0, none⟩) l.length cap), .bool br, .bool false, .int .i64 ops] 32) = W2 at hf ho hh hb ⊢
  have R5 := Aside0.mk (show ∀ k, ok k → w.heap.size + 3 ≤ k ∧ k < w2.heap.size from fun k hk => ⟨by have := (hok k hk).1; omega, (hok k hk).2⟩)
  have R2 := Aside0.mk (show g < w2.heap.size from q4)
  have R3 := Aside0.mk (show g2 ≠ w2.heap.size by omega)
  have R4 := Aside0.mk (show w.heap.size + 3 ≤ w2.heap.size by omega)
  clear hs0 hs2 hbo HF2 HB2 HF HH2 q1 q2 q3 q4 hok HGS
  generalize w2.heap.size = Bo at *
  obtain ⟨za0, za1, za2, za3, ya0, ya1, ya2, ya3⟩ := blk4 hf.chip; obtain ⟨zc0, zc1, zc2, zc3, yc0, yc1, yc2, yc3⟩ := blk4 hf.fate; obtain ⟨zd0, zd1, zd2, zd3, yd0, yd1, yd2, yd3⟩ := blk4 hf.ret
  obtain ⟨zo0, zo1, zo2, zo3, yo0, yo1, yo2, yo3⟩ := blk4 ho
  obtain ⟨ze0, ze1, ze2, ze3, ye0, ye1, ye2, ye3⟩ := hh.cells
  have HF := Aside0.mk hf
  have HO := Aside0.mk ho
  have HH := Aside0.mk hh
  have HBW := Aside0.mk hb
  clear hf ho hh hb
  go_upto_region 7 with (fail)
  have hf := HF.out.far (fun k h1 h2 => Below.heap_setCell W2 ⟨Bo, 3, none⟩ (.int .i64 (wrap64 (ops + 1))) k (show k ≠ Bo by have := R4.out; have := R1.out; omega))
  have ho := blk_put HO.out 3 (.int .i64 (wrap64 (ops + 1))) rfl
  have hh := HH.out.far (p := ⟨Bo, 3, none⟩) (fun k hk => show k ≠ Bo by have := R5.out k hk; omega) (show Bo ≠ g by have := R1.out; have := R2.out; omega) (show Bo ≠ g2 by have := R1.out; have := R3.out; omega) (.int .i64 (wrap64 (ops + 1)))
  have hb := below_set (g := Bo) (j := 3) (v := .int .i64 (wrap64 (ops + 1))) (HBW.out) (by have := R4.out; have := R1.out; omega)
  clear za0 za1 za2 za3 ya0 ya1 ya2 ya3 zc0 zc1 zc2 zc3 yc0 yc1 yc2 yc3 zd0 zd1 zd2 zd3 yd0 yd1 yd2 yd3 zo0 zo1 zo2 zo3 yo0 yo1 yo2 yo3 ze0 ze1 ze2 ze3 ye0 ye1 ye2 ye3 HF HO HH HBW
  generalize W2.setCell ⟨Bo, 3, none⟩ (.int .i64 (wrap64 (ops + 1))) = W3 at hf ho hh hb ⊢
  obtain ⟨za0, za1, za2, za3, ya0, ya1, ya2, ya3⟩ := blk4 hf.chip; obtain ⟨zc0, zc1, zc2, zc3, yc0, yc1, yc2, yc3⟩ := blk4 hf.fate; obtain ⟨zd0, zd1, zd2, zd3, yd0, yd1, yd2, yd3⟩ := blk4 hf.ret
  obtain ⟨zo0, zo1, zo2, zo3, yo0, yo1, yo2, yo3⟩ := blk4 ho
  obtain ⟨ze0, ze1, ze2, ze3, ye0, ye1, ye2, ye3⟩ := hh.cells
  have HF := Aside0.mk hf
  have HO := Aside0.mk ho
  have HH := Aside0.mk hh
  have HBW := Aside0.mk hb
  clear hf ho hh hb
  go_upto_region 12 with (fail)
  rw [HER.out]
  have hf := HF.out.far (fun k h1 h2 => Below.heap_setCell W3 ⟨g, b.toNat * 4 + 2, none⟩ (.int .i64 er) k (show k ≠ g by have := R4.out; have := R1.out; omega))
  have ho := (Below.heap_setCell W3 ⟨g, b.toNat * 4 + 2, none⟩ (.int .i64 er) Bo (show Bo ≠ g by have := R4.out; have := R2.out; have := R3.out; omega)).trans HO.out
  have hh := HH.out.erases er
  have hb := below_set (g := g) (j := b.toNat * 4 + 2) (v := .int .i64 er) (HBW.out) (by have := R4.out; have := R1.out; omega)
  clear za0 za1 za2 za3 ya0 ya1 ya2 ya3 zc0 zc1 zc2 zc3 yc0 yc1 yc2 yc3 zd0 zd1 zd2 zd3 yd0 yd1 yd2 yd3 zo0 zo1 zo2 zo3 yo0 yo1 yo2 yo3 ze0 ze1 ze2 ze3 ye0 ye1 ye2 ye3 HF HO HH HBW
  generalize W3.setCell ⟨g, b.toNat * 4 + 2, none⟩ (.int .i64 er) = W4 at hf ho hh hb ⊢
  obtain ⟨za0, za1, za2, za3, ya0, ya1, ya2, ya3⟩ := blk4 hf.chip; obtain ⟨zc0, zc1, zc2, zc3, yc0, yc1, yc2, yc3⟩ := blk4 hf.fate; obtain ⟨zd0, zd1, zd2, zd3, yd0, yd1, yd2, yd3⟩ := blk4 hf.ret
  obtain ⟨zo0, zo1, zo2, zo3, yo0, yo1, yo2, yo3⟩ := blk4 ho
  obtain ⟨ze0, ze1, ze2, ze3, ye0, ye1, ye2, ye3⟩ := hh.cells
  have HF := Aside0.mk hf
  have HO := Aside0.mk ho
  have HH := Aside0.mk hh
  have HBW := Aside0.mk hb
  clear hf ho hh hb
  have hlen : ∀ k, k ≤ x.f0.length → (List.replicate k zP ++ x.f0.drop k).length = x.f0.length := fun k hk => by simp; omega
  have HLEN := Aside0.mk hlen
  clear hlen hk za0 za1 za2 za3 ya0 ya1 ya2 ya3 zc0 zc1 zc2 zc3 yc0 yc1 yc2 yc3 zd0 zd1 zd2 zd3 yd0 yd1 yd2 yd3 zo0 zo1 zo2 zo3 yo0 yo1 yo2 yo3 ze0 ze1 ze2 ze3 ye0 ye1 ye2 ye3
  go_wp2
  go_loopw [10] (fun i wr => ∃ k : Nat, k ≤ x.f0.length ∧ i = .int .i64 k ∧ Aside0 (Three wr w.heap.size (.slice (some ad) l.length c) br false ops kind fd ft n (.slice none 0 0) (.bool false) (.bool false) (.int .i64 0)) ∧
      Aside0 (wr.heap[Bo]? = some (.cells #[(.slice (some ⟨g, 0, none⟩) l.length cap), .bool br, .bool false, .int .i64 (wrap64 (ops + 1))] 32 (0, 0))) ∧ Aside0 (Held wr ok g g2 l b.toNat A2 c2 (List.replicate (min k m) zP ++ x.f0.drop (min k m)) x.f1 er x.f3) ∧ Aside0 (Below w.heap.size w wr))
    (fun i _ => x.f0.length - (intOf i).toNat)
  case atStart => exact ⟨0, Nat.zero_le _, rfl, HF, HO, by simpa using HH, HBW⟩
  case round =>
    clear HF HO HH HBW
    obtain ⟨k, hk, rfl, HF, HO, HH, HBW⟩ := hrel
    have hf := HF.out
    have ho := HO.out
    have hh := HH.out
    obtain ⟨za0, za1, za2, za3, ya0, ya1, ya2, ya3⟩ := blk4 hf.chip; obtain ⟨zc0, zc1, zc2, zc3, yc0, yc1, yc2, yc3⟩ := blk4 hf.fate; obtain ⟨zd0, zd1, zd2, zd3, yd0, yd1, yd2, yd3⟩ := blk4 hf.ret
    obtain ⟨zo0, zo1, zo2, zo3, yo0, yo1, yo2, yo3⟩ := blk4 ho
    obtain ⟨ze0, ze1, ze2, ze3, ye0, ye1, ye2, ye3⟩ := hh.cells
    rw [HLEN.out _ (by omega)] at ze0
    clear hf ho hh
    by_cases hlt : k < x.f0.length
    · have hgo : (k < m ∧ (kind = 0 ∨ (kind = 2 ∧ (k : Int) < n))) ∨ (¬ k < m ∧ kind = 2 ∧ n ≤ (k : Int)) := by
        have h9 := HMK.out k hlt
        rcases HK.out with rfl | rfl
        · exact .inl ⟨h9.1 (.inl rfl), .inl rfl⟩
        · by_cases h8 : (k : Int) < n
          · exact .inl ⟨h9.1 (.inr h8), .inr ⟨rfl, h8⟩⟩
          · exact .inr ⟨fun h7 => by rcases h9.2 h7 with h6 | h6 <;> omega, rfl, by omega⟩
      rcases hgo with ⟨hkm, hgo⟩ | ⟨hkm, hk2, hgo⟩
      · obtain ⟨q, hq⟩ := wipe_at (ps := x.f0) (m := m) hlt
        obtain ⟨hA, zg0, zg1, zg2, yg0, yg1, yg2⟩ := HH.out.page hq
        rw [hA] at ze0
        have HKM := Aside0.mk hkm
        clear hq hA hkm
        rcases hgo with hk0 | ⟨hk2, hgo⟩
        all_goals
          rw [show kind = _ from by assumption] at zc0
          go_wp2
          go_roundw
          case rel =>
            refine ⟨k + 1, by omega, by go_num, ⟨HF.out.far (fun k' h1 h2 => by rw [Below.heap_setCell _ _ _ _ (show k' ≠ g2 by have := R1.out; have := R3.out; omega), Below.heap_setCell _ _ _ _ (show k' ≠ g2 by have := R1.out; have := R3.out; omega), Below.heap_setCell _ _ _ _ (show k' ≠ g2 by have := R1.out; have := R3.out; omega)])⟩, ⟨by rw [Below.heap_setCell _ _ _ _ (show Bo ≠ g2 by have := R1.out; have := R3.out; omega), Below.heap_setCell _ _ _ _ (show Bo ≠ g2 by have := R1.out; have := R3.out; omega), Below.heap_setCell _ _ _ _ (show Bo ≠ g2 by have := R1.out; have := R3.out; omega)]; exact HO.out⟩, ⟨?_⟩, ⟨below_set (g := g2) (j := k * 3 + 2) (v := .string ⟨#[]⟩) (below_set (g := g2) (j := k * 3 + 1) (v := .string ⟨#[]⟩) (below_set (g := g2) (j := k * 3) (v := .bool false) (HBW.out) (by have := R4.out; have := R1.out; omega)) (by have := R4.out; have := R1.out; omega)) (by have := R4.out; have := R1.out; omega)⟩⟩
            rw [← wipe_set HKM.out hlt]
            exact HH.out.pset (j := k) (by rw [HLEN.out _ (by omega)]; exact hlt) zP
          case measure => simp [intOf]; omega
      · have HKM := Aside0.mk hkm
        clear hkm
        rw [hk2] at zc0
        go_wp2
        go_roundw
        case rel =>
          refine ⟨k + 1, by omega, by go_num, HF, HO, ⟨?_⟩, HBW⟩
          rw [← wipe_keep HKM.out]; exact HH.out
        case measure => simp [intOf]; omega
    · obtain hke : k = x.f0.length := by omega
      have hps : List.replicate (min k m) zP ++ x.f0.drop (min k m) = ps' := by rw [hke, Nat.min_eq_right hm1]; exact HPS.out
      have hln : ps'.length = x.f0.length := by rw [← HPS.out]; exact HLEN.out m hm1
      rw [hps] at HH
      have HLN := Aside0.mk hln
      clear hps hln hke
      go_upto_region 18 with (fail)
      have hf := HF.out.far (fun k h1 h2 => Below.heap_setCell wr ⟨g, b.toNat * 4 + 1, none⟩ (.int .i64 0) k (show k ≠ g by have := R4.out; have := R1.out; omega))
      have ho := (Below.heap_setCell wr ⟨g, b.toNat * 4 + 1, none⟩ (.int .i64 0) Bo (show Bo ≠ g by have := R4.out; have := R2.out; have := R3.out; omega)).trans HO.out
      have hh := HH.out.next 0
      have hb := below_set (g := g) (j := b.toNat * 4 + 1) (v := .int .i64 0) (HBW.out) (by have := R4.out; have := R1.out; omega)
      clear za0 za1 za2 za3 ya0 ya1 ya2 ya3 zc0 zc1 zc2 zc3 yc0 yc1 yc2 yc3 zd0 zd1 zd2 zd3 yd0 yd1 yd2 yd3 zo0 zo1 zo2 zo3 yo0 yo1 yo2 yo3 ze0 ze1 ze2 ze3 ye0 ye1 ye2 ye3 HF HO HH HBW
      generalize wr.setCell ⟨g, b.toNat * 4 + 1, none⟩ (.int .i64 0) = V1 at hf ho hh hb ⊢
      obtain ⟨za0, za1, za2, za3, ya0, ya1, ya2, ya3⟩ := blk4 hf.chip; obtain ⟨zc0, zc1, zc2, zc3, yc0, yc1, yc2, yc3⟩ := blk4 hf.fate; obtain ⟨zd0, zd1, zd2, zd3, yd0, yd1, yd2, yd3⟩ := blk4 hf.ret
      obtain ⟨zo0, zo1, zo2, zo3, yo0, yo1, yo2, yo3⟩ := blk4 ho
      obtain ⟨ze0, ze1, ze2, ze3, ye0, ye1, ye2, ye3⟩ := hh.cells
      rw [HLN.out] at ze0
      have HF := Aside0.mk hf
      have HO := Aside0.mk ho
      have HH := Aside0.mk hh
      have HBW := Aside0.mk hb
      clear hf ho hh hb
      rcases HK.out with rfl | rfl
      · skip
        have rr := R4.out
        have n1 : ¬ Bo = w.heap.size + 1 + 1 := by omega
        have n2 : ¬ w.heap.size + 1 + 1 = Bo := by omega
        go_wp2
        have hf2 := HF.out.putR (.slice (some ⟨g, 0, none⟩) l.length cap) (.bool br) (.bool false) (.int .i64 (wrap64 (ops + 1)))
        have hh := HH.out.step (fun k hk _ => far4 _ (w.heap.size + 1 + 1) (.slice (some ⟨g, 0, none⟩) l.length cap) (.bool br) (.bool false) (.int .i64 (wrap64 (ops + 1))) (show k ≠ w.heap.size + 1 + 1 by have := R1.out; rcases hk with hk | hk | hk <;> first | (have := (R5.out k hk).1; omega) | omega))
        have hbw := below4 HBW.out (show w.heap.size ≤ w.heap.size + 1 + 1 by omega) (.slice (some ⟨g, 0, none⟩) l.length cap) (.bool br) (.bool false) (.int .i64 (wrap64 (ops + 1)))
        refine bodyPost_ret (results_ct rfl _ _ (w.heap.size + 1 + 1) 32 #[.slice (some ⟨g, 0, none⟩) l.length cap, .bool br, .bool false, .int .i64 (wrap64 (ops + 1))] (0, 0) _ rfl hf2.ret Try.underlying32 rfl (by kernel_rfl)) rfl ⟨some ⟨g, 0, none⟩, cap, ?_, by rw [List.length_set]; exact hcap, hh.out (by have := R1.out; omega) (by have := R1.out; omega) (fun k hk => .inr (by have := (R5.out k hk).1; omega)), hbw⟩
        rw [List.length_set]
        rfl
      · go_upto_region 20 with (fail)
        have hf := HF.out.far (fun k h1 h2 => Below.heap_setCell V1 ⟨g, b.toNat * 4 + 1, none⟩ (.int .i64 x.f0.length) k (show k ≠ g by have := R4.out; have := R1.out; omega))
        have ho := (Below.heap_setCell V1 ⟨g, b.toNat * 4 + 1, none⟩ (.int .i64 x.f0.length) Bo (show Bo ≠ g by have := R4.out; have := R2.out; have := R3.out; omega)).trans HO.out
        have hh := HH.out.next x.f0.length
        have hb := below_set (g := g) (j := b.toNat * 4 + 1) (v := .int .i64 x.f0.length) (HBW.out) (by have := R4.out; have := R1.out; omega)
        clear za0 za1 za2 za3 ya0 ya1 ya2 ya3 zc0 zc1 zc2 zc3 yc0 yc1 yc2 yc3 zd0 zd1 zd2 zd3 yd0 yd1 yd2 yd3 zo0 zo1 zo2 zo3 yo0 yo1 yo2 yo3 ze0 ze1 ze2 ze3 ye0 ye1 ye2 ye3 HF HO HH HBW
        generalize V1.setCell ⟨g, b.toNat * 4 + 1, none⟩ (.int .i64 x.f0.length) = V2 at hf ho hh hb ⊢
        obtain ⟨za0, za1, za2, za3, ya0, ya1, ya2, ya3⟩ := blk4 hf.chip; obtain ⟨zc0, zc1, zc2, zc3, yc0, yc1, yc2, yc3⟩ := blk4 hf.fate; obtain ⟨zd0, zd1, zd2, zd3, yd0, yd1, yd2, yd3⟩ := blk4 hf.ret
        obtain ⟨zo0, zo1, zo2, zo3, yo0, yo1, yo2, yo3⟩ := blk4 ho
        obtain ⟨ze0, ze1, ze2, ze3, ye0, ye1, ye2, ye3⟩ := hh.cells
        have HF := Aside0.mk hf
        have HO := Aside0.mk ho
        have HH := Aside0.mk hh
        have HBW := Aside0.mk hb
        clear hf ho hh hb
        go_upto_region 21 with (fail)
        have hf := HF.out.far (fun k h1 h2 => Below.heap_setCell V2 ⟨Bo, 2, none⟩ (.bool true) k (show k ≠ Bo by have := R4.out; have := R1.out; omega))
        have ho := blk_put HO.out 2 (.bool true) rfl
        have hh := HH.out.far (p := ⟨Bo, 2, none⟩) (fun k hk => show k ≠ Bo by have := R5.out k hk; omega) (show Bo ≠ g by have := R1.out; have := R2.out; omega) (show Bo ≠ g2 by have := R1.out; have := R3.out; omega) (.bool true)
        have hb := below_set (g := Bo) (j := 2) (v := .bool true) (HBW.out) (by have := R4.out; have := R1.out; omega)
        clear za0 za1 za2 za3 ya0 ya1 ya2 ya3 zc0 zc1 zc2 zc3 yc0 yc1 yc2 yc3 zd0 zd1 zd2 zd3 yd0 yd1 yd2 yd3 zo0 zo1 zo2 zo3 yo0 yo1 yo2 yo3 ze0 ze1 ze2 ze3 ye0 ye1 ye2 ye3 HF HO HH HBW
        generalize V2.setCell ⟨Bo, 2, none⟩ (.bool true) = V3 at hf ho hh hb ⊢
        obtain ⟨za0, za1, za2, za3, ya0, ya1, ya2, ya3⟩ := blk4 hf.chip; obtain ⟨zc0, zc1, zc2, zc3, yc0, yc1, yc2, yc3⟩ := blk4 hf.fate; obtain ⟨zd0, zd1, zd2, zd3, yd0, yd1, yd2, yd3⟩ := blk4 hf.ret
        obtain ⟨zo0, zo1, zo2, zo3, yo0, yo1, yo2, yo3⟩ := blk4 ho
        obtain ⟨ze0, ze1, ze2, ze3, ye0, ye1, ye2, ye3⟩ := hh.cells
        have HF := Aside0.mk hf
        have HO := Aside0.mk ho
        have HH := Aside0.mk hh
        have HBW := Aside0.mk hb
        clear hf ho hh hb
        have rr := R4.out
        have n1 : ¬ Bo = w.heap.size + 1 + 1 := by omega
        have n2 : ¬ w.heap.size + 1 + 1 = Bo := by omega
        go_wp2
        have hf2 := HF.out.putR (.slice (some ⟨g, 0, none⟩) l.length cap) (.bool br) (.bool true) (.int .i64 (wrap64 (ops + 1)))
        have hh := HH.out.step (fun k hk _ => far4 _ (w.heap.size + 1 + 1) (.slice (some ⟨g, 0, none⟩) l.length cap) (.bool br) (.bool true) (.int .i64 (wrap64 (ops + 1))) (show k ≠ w.heap.size + 1 + 1 by have := R1.out; rcases hk with hk | hk | hk <;> first | (have := (R5.out k hk).1; omega) | omega))
        have hbw := below4 HBW.out (show w.heap.size ≤ w.heap.size + 1 + 1 by omega) (.slice (some ⟨g, 0, none⟩) l.length cap) (.bool br) (.bool true) (.int .i64 (wrap64 (ops + 1)))
        refine bodyPost_ret (results_ct rfl _ _ (w.heap.size + 1 + 1) 32 #[.slice (some ⟨g, 0, none⟩) l.length cap, .bool br, .bool true, .int .i64 (wrap64 (ops + 1))] (0, 0) _ rfl hf2.ret Try.underlying32 rfl (by kernel_rfl)) rfl ⟨some ⟨g, 0, none⟩, cap, ?_, by rw [List.length_set]; exact hcap, hh.out (by have := R1.out; omega) (by have := R1.out; omega) (fun k hk => .inr (by have := (R5.out k hk).1; omega)), hbw⟩
        rw [List.length_set]
        rfl

end Go.Proofs.Ytfolonajajideaa.X
