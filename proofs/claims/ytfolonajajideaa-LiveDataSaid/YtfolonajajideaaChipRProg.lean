/- The document's Program. -/
import Derived.Test.YtfolonajajideaaChipRef
namespace Go.Proofs.Ytfolonajajideaa.X
open Go.RowKit Go.Proofs.Ytfolonajajideaa.PAll Go.Proofs.YtfolonajajideaaW.PrintWords Go.Proofs.YtfolonajajideaaW.PrintLast Go.Proofs.YtfolonajajideaaW.PrintMore
set_option linter.unusedVariables false
set_option linter.unusedSimpArgs false
/-- Is a page there? -/
def thereB (l : List Blk) (b p : Int) : Bool := decide (0 ≤ b) && (decide (b < l.length) && (decide (0 ≤ p) && decide (p < (rdB l b).f0.length)))
theorem Four.pg0 {W : World} {B : Nat} {v : Value} {br off : Bool} {ops : Int} {pw : Bool} {pd pt : ByteArray} {kind : Int} {fd ft : ByteArray} {n : Int} {c0 c1 c2 c3 : Value} (h : Four W B v br off ops pw pd pt kind fd ft n c0 c1 c2 c3) (x : Bool) : Four (W.setCell ⟨B + 1, 0, none⟩ (.bool x)) B v br off ops x pd pt kind fd ft n c0 c1 c2 c3 :=
  ⟨(Below.heap_setCell _ _ _ _ (show B ≠ B + 1 by omega)).trans h.chip, blk_put h.page 0 (.bool x) rfl, (Below.heap_setCell _ _ _ _ (show B + 1 + 1 ≠ B + 1 by omega)).trans h.fate, (Below.heap_setCell _ _ _ _ (show B + 1 + 1 + 1 ≠ B + 1 by omega)).trans h.ret⟩
theorem Four.pg1 {W : World} {B : Nat} {v : Value} {br off : Bool} {ops : Int} {pw : Bool} {pd pt : ByteArray} {kind : Int} {fd ft : ByteArray} {n : Int} {c0 c1 c2 c3 : Value} (h : Four W B v br off ops pw pd pt kind fd ft n c0 c1 c2 c3) (x : ByteArray) : Four (W.setCell ⟨B + 1, 1, none⟩ (.string x)) B v br off ops pw x pt kind fd ft n c0 c1 c2 c3 :=
  ⟨(Below.heap_setCell _ _ _ _ (show B ≠ B + 1 by omega)).trans h.chip, blk_put h.page 1 (.string x) rfl, (Below.heap_setCell _ _ _ _ (show B + 1 + 1 ≠ B + 1 by omega)).trans h.fate, (Below.heap_setCell _ _ _ _ (show B + 1 + 1 + 1 ≠ B + 1 by omega)).trans h.ret⟩
theorem Four.pg2 {W : World} {B : Nat} {v : Value} {br off : Bool} {ops : Int} {pw : Bool} {pd pt : ByteArray} {kind : Int} {fd ft : ByteArray} {n : Int} {c0 c1 c2 c3 : Value} (h : Four W B v br off ops pw pd pt kind fd ft n c0 c1 c2 c3) (x : ByteArray) : Four (W.setCell ⟨B + 1, 2, none⟩ (.string x)) B v br off ops pw pd x kind fd ft n c0 c1 c2 c3 :=
  ⟨(Below.heap_setCell _ _ _ _ (show B ≠ B + 1 by omega)).trans h.chip, blk_put h.page 2 (.string x) rfl, (Below.heap_setCell _ _ _ _ (show B + 1 + 1 ≠ B + 1 by omega)).trans h.fate, (Below.heap_setCell _ _ _ _ (show B + 1 + 1 + 1 ≠ B + 1 by omega)).trans h.ret⟩
set_option maxHeartbeats 2000000 in
set_option maxRecDepth 100000 in
theorem there_any (A : Option Addr) (c : Nat) (l : List Blk) (br off : Bool) (ops b p : Int) (w : World) (hC : Kd.C kB w A l.length l) (hs : sm l = true) :
    Calls Try.prog 41 #[.agg #[.slice A l.length c, .bool br, .bool off, .int .i64 ops], .int .i64 b, .int .i64 p] w fun e w' => e = .returned (.bool (thereB l b p)) ∧ Below w.heap.size w w' := by
  have hm : l.length ≤ 9223372036854775807 := hC.2.1
  by_cases hb0 : 0 ≤ b
  case neg =>
    rw [show thereB l b p = false by unfold thereB; rw [decide_eq_false hb0]; rfl]
    have d0 : decide (0 ≤ b) = false := decide_eq_false hb0
    clear hC hs
    go_enter Try.func41, Try.ntmps41
    go_wp2
    go_ret
    exact ⟨rfl, (Below.refl _ w).alloc (Nat.le_refl _) _⟩
  have d0 : decide (0 ≤ b) = true := decide_eq_true hb0
  by_cases hb1 : b < (l.length : Int)
  case neg =>
    have d1 : decide (b < (l.length : Int)) = false := decide_eq_false hb1
    rw [show thereB l b p = false by unfold thereB; rw [d0, d1]; rfl]
    clear hC hs
    go_enter Try.func41, Try.ntmps41
    go_wp2
    go_ret
    exact ⟨rfl, (Below.refl _ w).alloc (Nat.le_refl _) _⟩
  have d1 : decide (b < (l.length : Int)) = true := decide_eq_true hb1
  by_cases hp0 : 0 ≤ p
  case neg =>
    have d2 : decide (0 ≤ p) = false := decide_eq_false hp0
    rw [show thereB l b p = false by unfold thereB; rw [d0, d1, d2]; rfl]
    clear hC hs
    go_enter Try.func41, Try.ntmps41
    go_wp2
    go_ret
    exact ⟨rfl, (Below.refl _ w).alloc (Nat.le_refl _) _⟩
  have d2 : decide (0 ≤ p) = true := decide_eq_true hp0
  obtain ⟨hl, hall⟩ := sm_iff.1 hs
  have hx := rdB_at hb0 hb1
  have hp6 := hall _ (List.mem_of_getElem? hx)
  obtain ⟨ad, A0, c0, rfl, z0, z1, z2, z3, _, _⟩ := at_T62 (Kd.C_below hC ((Below.refl _ w).alloc (Nat.le_refl _) (.cells #[.slice A l.length c, .bool br, .bool off, .int .i64 ops] 32))) b hb0 (by omega)
  obtain ⟨x, hxx⟩ : ∃ x, rd_T62 l b = x := ⟨_, rfl⟩
  have hp7 : x.f0.length ≤ 9223372036854775807 := by rw [← hxx]; exact Nat.le_trans hp6 (by omega)
  obtain ⟨q, hq⟩ : ∃ q, decide (p < (x.f0.length : Int)) = q := ⟨_, rfl⟩
  have HQ := Aside0.mk hq
  rw [show thereB l b p = q by unfold thereB; rw [d0, d1, d2, show rdB l b = x from hxx, hq]; rfl]
  rw [hxx] at z0 z1 z2 z3
  clear hC hs hx hp6 hall hxx
  go_enter Try.func41, Try.ntmps41
  go_wp2
  all_goals
    go_ret
    exact ⟨rfl, (Below.refl _ w).alloc (Nat.le_refl _) _⟩
set_option maxHeartbeats 2000000 in
set_option maxRecDepth 100000 in
/-- Off. -/
theorem rprog_off (A : Option Addr) (c : Nat) (l : List Blk) (br : Bool) (ops b p : Int) (pw : Bool) (pd pt : ByteArray) (kind : Int) (fd ft : ByteArray) (n : Int) (P : Nat → Prop) (w : World) (hC : Kd.C kB w A l.length l) (hc : l.length ≤ c) (hs : sm l = true) :
    Calls Try.prog 26 #[.agg #[.slice A l.length c, .bool br, .bool true, .int .i64 ops], .int .i64 b, .int .i64 p, .agg #[.bool pw, .string pd, .string pt], .agg #[.int .i64 kind, .string fd, .string ft, .int .i64 n]] w fun e1 w' => Out P w w' e1 (l, br, true, ops, 52) := by
  obtain ⟨W0, hW, hF, hB, hS⟩ := four_start w (.slice A l.length c) br true ops pw pd pt kind fd ft n
  have OW := Aside0.mk (own_any A c l br true ops w W0 hC hB hc hs)
  have HC := Aside0.mk hC
  have HW := Aside0.mk hW
  have HF := Aside0.mk hF
  have HB := Aside0.mk hB
  have HS := Aside0.mk hS
  clear hC hW hF hB hS hs hc
  go_enter Try.func26, Try.ntmps26
  go_wp2_with (first
    | (go_at_call 39; rw [HW.out]; refine OW.out.mono ?_; rintro e1 w1 ⟨v0, rfl, hSS, hb⟩; obtain ⟨ok, hSR⟩ : ∃ ok, Kd.S kB 62 w1 W0.heap.size ok v0 l ∧ ∀ k, ok k → W0.heap.size ≤ k := ⟨_, Kd.S_bound hSS, fun k hk => hk.2.1⟩; obtain ⟨A1, c1, rfl, hc1, hC1⟩ := S_C hSS; have hf := HF.out.below hb; obtain ⟨za0, za1, za2, za3, ya0, ya1, ya2, ya3⟩ := blk4 hf.chip; obtain ⟨zb0, zb1, zb2, yb0, yb1, yb2⟩ := blk3 hf.page; obtain ⟨zc0, zc1, zc2, zc3, yc0, yc1, yc2, yc3⟩ := blk4 hf.fate; obtain ⟨zd0, zd1, zd2, zd3, yd0, yd1, yd2, yd3⟩ := blk4 hf.ret; have HB1 := Aside0.mk hb; have HF1 := Aside0.mk hf; have HSR := Aside0.mk hSR; clear hf hb hC1 hSS hSR))
  have hs0 := HS.out
  have hf2 := HF1.out.putR (.slice A1 l.length c1) (.bool br) (.bool true) (.int .i64 ops)
  have hbw := below4 (below_step HB.out HB1.out) (show w.heap.size ≤ w.heap.size + 1 + 1 + 1 by omega) (.slice A1 l.length c1) (.bool br) (.bool true) (.int .i64 ops)
  have hS2 := Kd.S_step HSR.out.1 (fun k hk _ => far4 _ (w.heap.size + 1 + 1 + 1) (.slice A1 l.length c1) (.bool br) (.bool true) (.int .i64 ops) (show k ≠ w.heap.size + 1 + 1 + 1 by have := HSR.out.2 k hk; omega))
  exact bodyPost_ret (results_ct rfl _ _ (w.heap.size + 1 + 1 + 1) 32 #[.slice A1 l.length c1, .bool br, .bool true, .int .i64 ops] (0, 0) _ rfl hf2.ret Try.underlying32 rfl (by kernel_rfl)) rfl ⟨A1, c1, rfl, hc1, Kd.F_mono (Kd.S_F hS2) (fun k hk => .inr (by have := HSR.out.2 k hk; omega)), hbw⟩
set_option maxHeartbeats 2000000 in
set_option maxRecDepth 100000 in
/-- A contract that was violated. -/
theorem rprog_broken (A : Option Addr) (c : Nat) (l : List Blk) (br : Bool) (ops b p : Int) (pw : Bool) (pd pt : ByteArray) (kind : Int) (fd ft : ByteArray) (n : Int) (P : Nat → Prop) (w : World) (hC : Kd.C kB w A l.length l) (hc : l.length ≤ c) (hs : sm l = true) (hw : mayP l b p kind = false) :
    Calls Try.prog 26 #[.agg #[.slice A l.length c, .bool br, .bool false, .int .i64 ops], .int .i64 b, .int .i64 p, .agg #[.bool pw, .string pd, .string pt], .agg #[.int .i64 kind, .string fd, .string ft, .int .i64 n]] w fun e1 w' => Out P w w' e1 (l, true, false, ops, 1) := by
  have hcase : thereB l b p = false ∨ (thereB l b p = true ∧ ((rdB l b).f3 = true ∨ ((rdB l b).f3 = false ∧ ((((rdB l b).f1 != p) = true) ∨ (((rdB l b).f1 != p) = false ∧ (kind < 0 ∨ (0 ≤ kind ∧ 2 < kind))))))) := by
    cases ht : thereB l b p with
    | false => exact .inl rfl
    | true =>
      refine .inr ⟨rfl, ?_⟩
      cases h3 : (rdB l b).f3 with
      | true => exact .inl rfl
      | false =>
        refine .inr ⟨rfl, ?_⟩
        cases h1 : (rdB l b).f1 != p with
        | true => exact .inl rfl
        | false =>
          refine .inr ⟨rfl, ?_⟩
          by_cases k0 : kind < 0
          · exact .inl k0
          · refine .inr ⟨by omega, ?_⟩
            by_cases k1 : 2 < kind
            · exact k1
            · exfalso
              unfold thereB at ht
              simp only [Bool.and_eq_true, decide_eq_true_iff] at ht
              have : mayP l b p kind = true := mayP_iff.2 ⟨may_iff.2 ⟨ht.1, ht.2.1, by omega, by omega, h3⟩, ht.2.2.1, ht.2.2.2, bne_eq_false_iff_eq.1 h1⟩
              rw [this] at hw
              cases hw
  clear hw
  obtain ⟨W0, hW, hF, hB, hS⟩ := four_start w (.slice A l.length c) br false ops pw pd pt kind fd ft n
  have TH := Aside0.mk (there_any A c l br false ops b p W0 (Kd.C_below hC hB) hs)
  have HL := Aside0.mk hc
  have HSM := Aside0.mk hs
  have HC := Aside0.mk hC
  have HW := Aside0.mk hW
  have HF := Aside0.mk hF
  have HB := Aside0.mk hB
  have HS := Aside0.mk hS
  have hlm : l.length ≤ 9223372036854775807 := hC.2.1
  rcases hcase with ht | ⟨ht, hcase⟩
  · rw [ht] at TH
    clear hC hW hF hB hS hs hc ht
    go_enter Try.func26, Try.ntmps26
    go_upto_if 50 with (first | (go_at_call 41; rw [HW.out]; refine TH.out.mono ?_; rintro e1 w1 ⟨rfl, hb⟩; have hf := HF.out.below hb; obtain ⟨za0, za1, za2, za3, ya0, ya1, ya2, ya3⟩ := blk4 hf.chip; obtain ⟨zb0, zb1, zb2, yb0, yb1, yb2⟩ := blk3 hf.page; obtain ⟨zc0, zc1, zc2, zc3, yc0, yc1, yc2, yc3⟩ := blk4 hf.fate; obtain ⟨zd0, zd1, zd2, zd3, yd0, yd1, yd2, yd3⟩ := blk4 hf.ret; have HB1 := Aside0.mk hb; have HF1 := Aside0.mk hf; have BK := Aside0.mk (broken_any A c l br false ops w w1 HC.out (below_step HB.out hb) HL.out HSM.out); clear hf hb))
    go_wp2_with (first | (go_at_call 40; refine BK.out.mono ?_; rintro e2 w2 ⟨A1, c1, rfl, hc1, hS2, hb2⟩; obtain ⟨ok, hSR⟩ : ∃ ok, Kd.S kB 62 w2 w1.heap.size ok (.slice A1 l.length c1) l ∧ ∀ k, ok k → w1.heap.size ≤ k := ⟨_, Kd.S_bound hS2, fun k hk => hk.2.1⟩; clear za0 za1 za2 za3 ya0 ya1 ya2 ya3 zb0 zb1 zb2 yb0 yb1 yb2 zc0 zc1 zc2 zc3 yc0 yc1 yc2 yc3 zd0 zd1 zd2 zd3 yd0 yd1 yd2 yd3; have hf := HF1.out.below hb2; obtain ⟨za0, za1, za2, za3, ya0, ya1, ya2, ya3⟩ := blk4 hf.chip; obtain ⟨zb0, zb1, zb2, yb0, yb1, yb2⟩ := blk3 hf.page; obtain ⟨zc0, zc1, zc2, zc3, yc0, yc1, yc2, yc3⟩ := blk4 hf.fate; obtain ⟨zd0, zd1, zd2, zd3, yd0, yd1, yd2, yd3⟩ := blk4 hf.ret; have HB2 := Aside0.mk hb2; have HF2 := Aside0.mk hf; have HSR := Aside0.mk hSR; clear hS2 hSR hb2 hf))
    have hs0 := HS.out
    have hs1 := HB1.out.size
    have hf2 := HF2.out.putR (.slice A1 l.length c1) (.bool true) (.bool false) (.int .i64 ops)
    have hbw := below4 (below_step (below_step HB.out HB1.out) HB2.out) (show w.heap.size ≤ w.heap.size + 1 + 1 + 1 by omega) (.slice A1 l.length c1) (.bool true) (.bool false) (.int .i64 ops)
    have hS2 := Kd.S_step HSR.out.1 (fun k hk _ => far4 _ (w.heap.size + 1 + 1 + 1) (.slice A1 l.length c1) (.bool true) (.bool false) (.int .i64 ops) (show k ≠ w.heap.size + 1 + 1 + 1 by have := HSR.out.2 k hk; omega))
    exact bodyPost_ret (results_ct rfl _ _ (w.heap.size + 1 + 1 + 1) 32 #[.slice A1 l.length c1, .bool true, .bool false, .int .i64 ops] (0, 0) _ rfl hf2.ret Try.underlying32 rfl (by kernel_rfl)) rfl ⟨A1, c1, rfl, hc1, Kd.F_mono (Kd.S_F hS2) (fun k hk => .inr (by have := HSR.out.2 k hk; omega)), hbw⟩
  · have hb0 : 0 ≤ b ∧ b < l.length := by
      unfold thereB at ht
      simp only [Bool.and_eq_true, decide_eq_true_iff] at ht
      exact ⟨ht.1, ht.2.1⟩
    obtain ⟨h0, h1⟩ := hb0
    have AT := Aside0.mk (fun (W : World) (hb : Below w.heap.size w W) => at_T62 (Kd.C_below hC hb) b h0 (by omega))
    obtain ⟨ad, _, _, rfl, _⟩ := at_T62 hC b h0 (by omega)
    obtain ⟨x, hxx⟩ : ∃ x, rdB l b = x := ⟨_, rfl⟩
    rw [hxx] at hcase
    have HXX := Aside0.mk (show rd_T62 l b = x from hxx)
    rw [ht] at TH
    clear hC hW hF hB hS hs hc ht hxx
    rcases hcase with h3 | ⟨h3, hn | ⟨hn, hk | ⟨hk, hk2⟩⟩⟩
    all_goals
      go_enter Try.func26, Try.ntmps26
      go_upto_if 50 with (first | (go_at_call 41; rw [HW.out]; refine TH.out.mono ?_; rintro e1 w1 ⟨rfl, hb⟩; have hf := HF.out.below hb; obtain ⟨za0, za1, za2, za3, ya0, ya1, ya2, ya3⟩ := blk4 hf.chip; obtain ⟨zb0, zb1, zb2, yb0, yb1, yb2⟩ := blk3 hf.page; obtain ⟨zc0, zc1, zc2, zc3, yc0, yc1, yc2, yc3⟩ := blk4 hf.fate; obtain ⟨zd0, zd1, zd2, zd3, yd0, yd1, yd2, yd3⟩ := blk4 hf.ret; obtain ⟨ad_, A0, c0, hq_, z15, z16, z17, z18, _, _⟩ := AT.out w1 (below_step HB.out hb); cases hq_; rw [HXX.out] at z15 z16 z17 z18; rw [h3] at z18; have HB1 := Aside0.mk hb; have HF1 := Aside0.mk hf; have BK := Aside0.mk (broken_any (some ad) c l br false ops w w1 HC.out (below_step HB.out hb) HL.out HSM.out); clear hf hb))
      go_wp2_with (first | (go_at_call 40; refine BK.out.mono ?_; rintro e2 w2 ⟨A1, c1, rfl, hc1, hS2, hb2⟩; obtain ⟨ok, hSR⟩ : ∃ ok, Kd.S kB 62 w2 w1.heap.size ok (.slice A1 l.length c1) l ∧ ∀ k, ok k → w1.heap.size ≤ k := ⟨_, Kd.S_bound hS2, fun k hk => hk.2.1⟩; clear za0 za1 za2 za3 ya0 ya1 ya2 ya3 zb0 zb1 zb2 yb0 yb1 yb2 zc0 zc1 zc2 zc3 yc0 yc1 yc2 yc3 zd0 zd1 zd2 zd3 yd0 yd1 yd2 yd3; have hf := HF1.out.below hb2; obtain ⟨za0, za1, za2, za3, ya0, ya1, ya2, ya3⟩ := blk4 hf.chip; obtain ⟨zb0, zb1, zb2, yb0, yb1, yb2⟩ := blk3 hf.page; obtain ⟨zc0, zc1, zc2, zc3, yc0, yc1, yc2, yc3⟩ := blk4 hf.fate; obtain ⟨zd0, zd1, zd2, zd3, yd0, yd1, yd2, yd3⟩ := blk4 hf.ret; have HB2 := Aside0.mk hb2; have HF2 := Aside0.mk hf; have HSR := Aside0.mk hSR; clear hS2 hSR hb2 hf))
      have hs0 := HS.out
      have hs1 := HB1.out.size
      have hf2 := HF2.out.putR (.slice A1 l.length c1) (.bool true) (.bool false) (.int .i64 ops)
      have hbw := below4 (below_step (below_step HB.out HB1.out) HB2.out) (show w.heap.size ≤ w.heap.size + 1 + 1 + 1 by omega) (.slice A1 l.length c1) (.bool true) (.bool false) (.int .i64 ops)
      have hS2 := Kd.S_step HSR.out.1 (fun k hk _ => far4 _ (w.heap.size + 1 + 1 + 1) (.slice A1 l.length c1) (.bool true) (.bool false) (.int .i64 ops) (show k ≠ w.heap.size + 1 + 1 + 1 by have := HSR.out.2 k hk; omega))
      exact bodyPost_ret (results_ct rfl _ _ (w.heap.size + 1 + 1 + 1) 32 #[.slice A1 l.length c1, .bool true, .bool false, .int .i64 ops] (0, 0) _ rfl hf2.ret Try.underlying32 rfl (by kernel_rfl)) rfl ⟨A1, c1, rfl, hc1, Kd.F_mono (Kd.S_F hS2) (fun k hk => .inr (by have := HSR.out.2 k hk; omega)), hbw⟩

set_option maxHeartbeats 2000000 in
set_option maxRecDepth 100000 in
/-- .. done. -/
theorem rprog_ok (A : Option Addr) (c : Nat) (l : List Blk) (br : Bool) (ops b p : Int) (pw : Bool) (pd pt : ByteArray) (kind : Int) (fd ft : ByteArray) (n : Int) (P : Nat → Prop) (w : World) (hC : Kd.C kB w A l.length l) (hc : l.length ≤ c) (hs : sm l = true) (hw : mayP l b p kind = true) :
    Calls Try.prog 26 #[.agg #[.slice A l.length c, .bool br, .bool false, .int .i64 ops], .int .i64 b, .int .i64 p, .agg #[.bool pw, .string pd, .string pt], .agg #[.int .i64 kind, .string fd, .string ft, .int .i64 n]] w fun e1 w' =>
      Out P w w' e1 (l.set b.toNat (progB (rdB l b) p kind pd pt fd ft), br, decide (kind = 2), wrap64 (ops + 1), if kind = 0 then 0 else if kind = 1 then 53 else 52) := by
  obtain ⟨hm, hp0, hp1, hnx⟩ := mayP_iff.1 hw
  obtain ⟨hl, hall⟩ := sm_iff.1 hs
  obtain ⟨h0, h1, h2, h3, h4⟩ := may_iff.1 hm
  obtain ⟨W0, hW, hF, hB, hS⟩ := four_start w (.slice A l.length c) br false ops pw pd pt kind fd ft n
  have TH := Aside0.mk (there_any A c l br false ops b p W0 (Kd.C_below hC hB) hs)
  have HL := Aside0.mk hc
  have HSM := Aside0.mk hs
  have HC := Aside0.mk hC
  have HW := Aside0.mk hW
  have HF := Aside0.mk hF
  have HB := Aside0.mk hB
  have HS := Aside0.mk hS
  have ht : thereB l b p = true := by unfold thereB; simp [h0, h1, hp0, hp1]
  rw [ht] at TH
  have hlm : l.length ≤ 9223372036854775807 := hC.2.1
  have AT := Aside0.mk (fun (W : World) (hb : Below w.heap.size w W) => at_T62 (Kd.C_below hC hb) b h0 (by omega))
  obtain ⟨ad, _, _, rfl, _⟩ := at_T62 hC b h0 (by omega)
  have hx := rdB_at h0 h1
  have hp6 := hall _ (List.mem_of_getElem? hx)
  obtain ⟨x, hxx⟩ : ∃ x, rdB l b = x := ⟨_, rfl⟩
  rw [hxx] at hx hp6 hp1 hnx ⊢
  have h5 : x.f3 = false := by rw [← hxx]; exact h4
  have HX := Aside0.mk hx
  have HXX := Aside0.mk (show rd_T62 l b = x from hxx)
  have H5 := Aside0.mk h5
  have e1 : (x.f1 != p) = false := by rw [hnx]; simp
  have OWN := Aside0.mk (fun (W : World) (hb : Below w.heap.size w W) => own_any (some ad) c l br false ops w W hC hb hc hs)
  clear hC hW hF hB hS hs hc ht hxx hw hm h4 hall hx h5
  go_enter Try.func26, Try.ntmps26
  go_upto_if 50 with (first | (go_at_call 41; rw [HW.out]; refine TH.out.mono ?_; rintro e1 w1 ⟨rfl, hb⟩; have hf := HF.out.below hb; obtain ⟨za0, za1, za2, za3, ya0, ya1, ya2, ya3⟩ := blk4 hf.chip; obtain ⟨zb0, zb1, zb2, yb0, yb1, yb2⟩ := blk3 hf.page; obtain ⟨zc0, zc1, zc2, zc3, yc0, yc1, yc2, yc3⟩ := blk4 hf.fate; obtain ⟨zd0, zd1, zd2, zd3, yd0, yd1, yd2, yd3⟩ := blk4 hf.ret; obtain ⟨ad_, A0, c0, hq_, z15, z16, z17, z18, _, _⟩ := AT.out w1 (below_step HB.out hb); cases hq_; rw [HXX.out] at z15 z16 z17 z18; rw [H5.out] at z18; have HB1 := Aside0.mk hb; have HF1 := Aside0.mk hf; have BK := Aside0.mk (broken_any (some ad) c l br false ops w w1 HC.out (below_step HB.out hb) HL.out HSM.out); clear hf hb))
  go_upto_region 6 with (first
    | (go_at_call 39; refine (OWN.out w1 (below_step HB.out HB1.out)).mono ?_; rintro e2 w2 ⟨v0, rfl, hS2, hb2⟩; obtain ⟨ok, g, g2, cap, A2, c2, rfl, hcap, hg, hg2, hgg2, hgl, hok, hH⟩ := Held.of_S hS2 HSM.out HX.out; have HGS := Aside0.mk (show (w1.heap.size ≤ g ∧ w1.heap.size ≤ g2 ∧ (g2 < w2.heap.size ∨ w2.heap.size + 1000 ≤ g2) ∧ g < w2.heap.size) ∧ ∀ k, ok k → w1.heap.size ≤ k ∧ k < w2.heap.size from ⟨⟨hg, hg2, hgg2, hgl⟩, hok⟩); have HH2 := Aside0.mk hH; have HB2 := Aside0.mk hb2; have HF2 := Aside0.mk (HF1.out.below hb2); clear za0 za1 za2 za3 ya0 ya1 ya2 ya3 zb0 zb1 zb2 yb0 yb1 yb2 zc0 zc1 zc2 zc3 yc0 yc1 yc2 yc3 zd0 zd1 zd2 zd3 yd0 yd1 yd2 yd3 z15 z16 z17 z18 hg hg2 hgg2 hgl hok hH hb2 hS2; have hf := HF2.out; obtain ⟨za0, za1, za2, za3, ya0, ya1, ya2, ya3⟩ := blk4 hf.chip; obtain ⟨zb0, zb1, zb2, yb0, yb1, yb2⟩ := blk3 hf.page; obtain ⟨zc0, zc1, zc2, zc3, yc0, yc1, yc2, yc3⟩ := blk4 hf.fate; obtain ⟨zd0, zd1, zd2, zd3, yd0, yd1, yd2, yd3⟩ := blk4 hf.ret; clear hf))
  have hs0 := HS.out
  have hs1 := HB1.out.size
  obtain ⟨⟨q1, q2, q3, q4⟩, hok⟩ := HGS.out
  have hs2 := HB2.out.size
  have hbo := below_step (below_step HB.out HB1.out) HB2.out
  have ho := alloc_at w2 (.cells #[(.slice (some ⟨g, 0, none⟩) l.length cap), .bool br, .bool false, .int .i64 ops] 32)
  have hf := HF2.out.below (below_alloc (Below.refl _ _) (.cells #[(.slice (some ⟨g, 0, none⟩) l.length cap), .bool br, .bool false, .int .i64 ops] 32))
  have hh := HH2.out.alloc (.cells #[(.slice (some ⟨g, 0, none⟩) l.length cap), .bool br, .bool false, .int .i64 ops] 32)
  have hb := below_alloc hbo (.cells #[(.slice (some ⟨g, 0, none⟩) l.length cap), .bool br, .bool false, .int .i64 ops] 32)
  have R1 := Aside0.mk (show w.heap.size + 4 ≤ g ∧ w.heap.size + 4 ≤ g2 by omega)
  clear za0 za1 za2 za3 ya0 ya1 ya2 ya3 zb0 zb1 zb2 yb0 yb1 yb2 zc0 zc1 zc2 zc3 yc0 yc1 yc2 yc3 zd0 zd1 zd2 zd3 yd0 yd1 yd2 yd3
  generalize w2.alloc (.cells #[(.slice (some ⟨g, 0, none⟩) l.length cap), .bool br, .bool false, .int .i64 ops] 32) = W2 at hf ho hh hb ⊢
  have R5 := Aside0.mk (show ∀ k, ok k → w.heap.size + 4 ≤ k ∧ k < w2.heap.size from fun k hk => ⟨by have := (hok k hk).1; omega, (hok k hk).2⟩)
  have R2 := Aside0.mk (show g < w2.heap.size from q4)
  have R3 := Aside0.mk (show g2 ≠ w2.heap.size by omega)
  have R4 := Aside0.mk (show w.heap.size + 4 ≤ w2.heap.size by omega)
  clear hs0 hs1 hs2 hbo HF2 HB2 HF1 HB1 HH2 HF q1 q2 q3 q4 hok HGS
  have hrr := R4.out
  generalize w2.heap.size = Bo at *
  obtain ⟨za0, za1, za2, za3, ya0, ya1, ya2, ya3⟩ := blk4 hf.chip; obtain ⟨zb0, zb1, zb2, yb0, yb1, yb2⟩ := blk3 hf.page; obtain ⟨zc0, zc1, zc2, zc3, yc0, yc1, yc2, yc3⟩ := blk4 hf.fate; obtain ⟨zd0, zd1, zd2, zd3, yd0, yd1, yd2, yd3⟩ := blk4 hf.ret
  obtain ⟨zo0, zo1, zo2, zo3, yo0, yo1, yo2, yo3⟩ := blk4 ho
  obtain ⟨ze0, ze1, ze2, ze3, ye0, ye1, ye2, ye3⟩ := hh.cells
  rw [hnx] at ze1
  have HF := Aside0.mk hf
  have HO := Aside0.mk ho
  have HH := Aside0.mk hh
  have HBW := Aside0.mk hb
  clear hf ho hh hb
  go_upto_region 7 with (fail)
  have hf := HF.out.far (fun k h1 h2 => Below.heap_setCell W2 ⟨Bo, 3, none⟩ (.int .i64 (wrap64 (ops + 1))) k (show k ≠ Bo by have := R4.out; have := R1.out; omega))
  have ho := blk_put HO.out 3 (.int .i64 (wrap64 (ops + 1))) rfl
  have hh := HH.out.far (p := ⟨Bo, 3, none⟩) (fun k hk => show k ≠ Bo by have := R5.out k hk; omega) (show Bo ≠ g by have := R1.out; have := R2.out; omega) (show Bo ≠ g2 by have := R1.out; have := R3.out; omega) (.int .i64 (wrap64 (ops + 1)))
  have hb := below_set (g := Bo) (j := 3) (v := .int .i64 (wrap64 (ops + 1))) (HBW.out) (by have := R4.out; have := R1.out; omega)
  clear za0 za1 za2 za3 ya0 ya1 ya2 ya3 zb0 zb1 zb2 yb0 yb1 yb2 zc0 zc1 zc2 zc3 yc0 yc1 yc2 yc3 zd0 zd1 zd2 zd3 yd0 yd1 yd2 yd3 zo0 zo1 zo2 zo3 yo0 yo1 yo2 yo3 ze0 ze1 ze2 ze3 ye0 ye1 ye2 ye3 HF HO HH HBW
  generalize W2.setCell ⟨Bo, 3, none⟩ (.int .i64 (wrap64 (ops + 1))) = W3 at hf ho hh hb ⊢
  obtain ⟨za0, za1, za2, za3, ya0, ya1, ya2, ya3⟩ := blk4 hf.chip; obtain ⟨zb0, zb1, zb2, yb0, yb1, yb2⟩ := blk3 hf.page; obtain ⟨zc0, zc1, zc2, zc3, yc0, yc1, yc2, yc3⟩ := blk4 hf.fate; obtain ⟨zd0, zd1, zd2, zd3, yd0, yd1, yd2, yd3⟩ := blk4 hf.ret
  obtain ⟨zo0, zo1, zo2, zo3, yo0, yo1, yo2, yo3⟩ := blk4 ho
  obtain ⟨ze0, ze1, ze2, ze3, ye0, ye1, ye2, ye3⟩ := hh.cells
  rw [hnx] at ze1
  have HF := Aside0.mk hf
  have HO := Aside0.mk ho
  have HH := Aside0.mk hh
  have HBW := Aside0.mk hb
  clear hf ho hh hb
  go_upto_region 8 with (fail)
  have hf := HF.out.far (fun k h1 h2 => Below.heap_setCell W3 ⟨g, b.toNat * 4 + 1, none⟩ (.int .i64 (p + 1)) k (show k ≠ g by have := R4.out; have := R1.out; omega))
  have ho := (Below.heap_setCell W3 ⟨g, b.toNat * 4 + 1, none⟩ (.int .i64 (p + 1)) Bo (show Bo ≠ g by have := R4.out; have := R2.out; have := R3.out; omega)).trans HO.out
  have hh := HH.out.next (p + 1)
  have hb := below_set (g := g) (j := b.toNat * 4 + 1) (v := .int .i64 (p + 1)) (HBW.out) (by have := R4.out; have := R1.out; omega)
  clear za0 za1 za2 za3 ya0 ya1 ya2 ya3 zb0 zb1 zb2 yb0 yb1 yb2 zc0 zc1 zc2 zc3 yc0 yc1 yc2 yc3 zd0 zd1 zd2 zd3 yd0 yd1 yd2 yd3 zo0 zo1 zo2 zo3 yo0 yo1 yo2 yo3 ze0 ze1 ze2 ze3 ye0 ye1 ye2 ye3 HF HO HH HBW
  generalize W3.setCell ⟨g, b.toNat * 4 + 1, none⟩ (.int .i64 (p + 1)) = W4 at hf ho hh hb ⊢
  obtain ⟨za0, za1, za2, za3, ya0, ya1, ya2, ya3⟩ := blk4 hf.chip; obtain ⟨zb0, zb1, zb2, yb0, yb1, yb2⟩ := blk3 hf.page; obtain ⟨zc0, zc1, zc2, zc3, yc0, yc1, yc2, yc3⟩ := blk4 hf.fate; obtain ⟨zd0, zd1, zd2, zd3, yd0, yd1, yd2, yd3⟩ := blk4 hf.ret
  obtain ⟨zo0, zo1, zo2, zo3, yo0, yo1, yo2, yo3⟩ := blk4 ho
  obtain ⟨ze0, ze1, ze2, ze3, ye0, ye1, ye2, ye3⟩ := hh.cells
  have HF := Aside0.mk hf
  have HO := Aside0.mk ho
  have HH := Aside0.mk hh
  have HBW := Aside0.mk hb
  clear hf ho hh hb
  go_upto_region 9 with (fail)
  have hf := HF.out.pg0 true
  have ho := (Below.heap_setCell W4 ⟨w.heap.size + 1, 0, none⟩ (.bool true) Bo (show Bo ≠ w.heap.size + 1 by have := R4.out; have := R2.out; have := R3.out; omega)).trans HO.out
  have hh := HH.out.far (p := ⟨w.heap.size + 1, 0, none⟩) (fun k hk => show k ≠ w.heap.size + 1 by have := R5.out k hk; omega) (show w.heap.size + 1 ≠ g by have := R1.out; have := R2.out; omega) (show w.heap.size + 1 ≠ g2 by have := R1.out; have := R3.out; omega) (.bool true)
  have hb := below_set (g := w.heap.size + 1) (j := 0) (v := .bool true) (HBW.out) (by have := R4.out; have := R1.out; omega)
  clear za0 za1 za2 za3 ya0 ya1 ya2 ya3 zb0 zb1 zb2 yb0 yb1 yb2 zc0 zc1 zc2 zc3 yc0 yc1 yc2 yc3 zd0 zd1 zd2 zd3 yd0 yd1 yd2 yd3 zo0 zo1 zo2 zo3 yo0 yo1 yo2 yo3 ze0 ze1 ze2 ze3 ye0 ye1 ye2 ye3 HF HO HH HBW
  generalize W4.setCell ⟨w.heap.size + 1, 0, none⟩ (.bool true) = W5 at hf ho hh hb ⊢
  obtain ⟨za0, za1, za2, za3, ya0, ya1, ya2, ya3⟩ := blk4 hf.chip; obtain ⟨zb0, zb1, zb2, yb0, yb1, yb2⟩ := blk3 hf.page; obtain ⟨zc0, zc1, zc2, zc3, yc0, yc1, yc2, yc3⟩ := blk4 hf.fate; obtain ⟨zd0, zd1, zd2, zd3, yd0, yd1, yd2, yd3⟩ := blk4 hf.ret
  obtain ⟨zo0, zo1, zo2, zo3, yo0, yo1, yo2, yo3⟩ := blk4 ho
  obtain ⟨ze0, ze1, ze2, ze3, ye0, ye1, ye2, ye3⟩ := hh.cells
  have HF := Aside0.mk hf
  have HO := Aside0.mk ho
  have HH := Aside0.mk hh
  have HBW := Aside0.mk hb
  clear hf ho hh hb
  have hk : kind = 0 ∨ kind = 1 ∨ kind = 2 := by omega
  rcases hk with rfl | rfl | rfl
  · skip
    obtain ⟨q, hq⟩ : ∃ q, x.f0[p.toNat]? = some q := ⟨_, List.getElem?_eq_getElem (by omega)⟩
    obtain ⟨rfl, zg0, zg1, zg2, yg0, yg1, yg2⟩ := HH.out.page hq
    have HQ := Aside0.mk hq
    clear hq
    go_upto_region 18 with (fail)
    go_region
    clear zg0 zg1 zg2 yg0 yg1 yg2
    have hf := HF.out.far (W1 := (((W5.setCell ⟨g2, p.toNat * 3, none⟩ (.bool true)).setCell ⟨g2, p.toNat * 3 + 1, none⟩ (.string pd)).setCell ⟨g2, p.toNat * 3 + 2, none⟩ (.string pt)).drew) (fun k h1 h2 => (show (((W5.setCell ⟨g2, p.toNat * 3, none⟩ (.bool true)).setCell ⟨g2, p.toNat * 3 + 1, none⟩ (.string pd)).setCell ⟨g2, p.toNat * 3 + 2, none⟩ (.string pt)).heap[k]? = _ from by rw [Below.heap_setCell _ _ _ _ (show k ≠ g2 by have := R1.out; have := R3.out; omega), Below.heap_setCell _ _ _ _ (show k ≠ g2 by have := R1.out; have := R3.out; omega), Below.heap_setCell _ _ _ _ (show k ≠ g2 by have := R1.out; have := R3.out; omega)]))
    have ho := (show (((W5.setCell ⟨g2, p.toNat * 3, none⟩ (.bool true)).setCell ⟨g2, p.toNat * 3 + 1, none⟩ (.string pd)).setCell ⟨g2, p.toNat * 3 + 2, none⟩ (.string pt)).drew.heap[Bo]? = _ from (by show (((W5.setCell ⟨g2, p.toNat * 3, none⟩ (.bool true)).setCell ⟨g2, p.toNat * 3 + 1, none⟩ (.string pd)).setCell ⟨g2, p.toNat * 3 + 2, none⟩ (.string pt)).heap[Bo]? = _; rw [Below.heap_setCell _ _ _ _ (show Bo ≠ g2 by have := R1.out; have := R3.out; omega), Below.heap_setCell _ _ _ _ (show Bo ≠ g2 by have := R1.out; have := R3.out; omega), Below.heap_setCell _ _ _ _ (show Bo ≠ g2 by have := R1.out; have := R3.out; omega)])).trans HO.out
    have hh := (HH.out.pset (j := p.toNat) (by omega) ⟨true, pd, pt⟩).drew
    have hb := below_drew (below_set (g := g2) (j := p.toNat * 3 + 2) (v := .string pt) (below_set (g := g2) (j := p.toNat * 3 + 1) (v := .string pd) (below_set (g := g2) (j := p.toNat * 3) (v := .bool true) (HBW.out) (by have := R4.out; have := R1.out; omega)) (by have := R4.out; have := R1.out; omega)) (by have := R4.out; have := R1.out; omega))
    clear za0 za1 za2 za3 ya0 ya1 ya2 ya3 zb0 zb1 zb2 yb0 yb1 yb2 zc0 zc1 zc2 zc3 yc0 yc1 yc2 yc3 zd0 zd1 zd2 zd3 yd0 yd1 yd2 yd3 zo0 zo1 zo2 zo3 yo0 yo1 yo2 yo3 ze0 ze1 ze2 ze3 ye0 ye1 ye2 ye3 HF HO HH HBW
    generalize (((W5.setCell ⟨g2, p.toNat * 3, none⟩ (.bool true)).setCell ⟨g2, p.toNat * 3 + 1, none⟩ (.string pd)).setCell ⟨g2, p.toNat * 3 + 2, none⟩ (.string pt)).drew = WF at hf ho hh hb ⊢
    obtain ⟨za0, za1, za2, za3, ya0, ya1, ya2, ya3⟩ := blk4 hf.chip; obtain ⟨zb0, zb1, zb2, yb0, yb1, yb2⟩ := blk3 hf.page; obtain ⟨zc0, zc1, zc2, zc3, yc0, yc1, yc2, yc3⟩ := blk4 hf.fate; obtain ⟨zd0, zd1, zd2, zd3, yd0, yd1, yd2, yd3⟩ := blk4 hf.ret
    obtain ⟨zo0, zo1, zo2, zo3, yo0, yo1, yo2, yo3⟩ := blk4 ho
    obtain ⟨ze0, ze1, ze2, ze3, ye0, ye1, ye2, ye3⟩ := hh.cells
    have HF := Aside0.mk hf
    have HO := Aside0.mk ho
    have HH := Aside0.mk hh
    have HBW := Aside0.mk hb
    clear hf ho hh hb
    have rr := R4.out
    have n1 : ¬ Bo = w.heap.size + 1 + 1 + 1 := by omega
    have n2 : ¬ w.heap.size + 1 + 1 + 1 = Bo := by omega
    go_wp2
    have hf2 := HF.out.putR (.slice (some ⟨g, 0, none⟩) l.length cap) (.bool br) (.bool false) (.int .i64 (wrap64 (ops + 1)))
    have hh := HH.out.step (fun k hk _ => far4 _ (w.heap.size + 1 + 1 + 1) (.slice (some ⟨g, 0, none⟩) l.length cap) (.bool br) (.bool false) (.int .i64 (wrap64 (ops + 1))) (show k ≠ w.heap.size + 1 + 1 + 1 by have := R1.out; rcases hk with hk | hk | hk <;> first | (have := (R5.out k hk).1; omega) | omega))
    have hbw := below4 HBW.out (show w.heap.size ≤ w.heap.size + 1 + 1 + 1 by omega) (.slice (some ⟨g, 0, none⟩) l.length cap) (.bool br) (.bool false) (.int .i64 (wrap64 (ops + 1)))
    have h5 := H5.out
    rw [h5] at hh
    refine bodyPost_ret (results_ct rfl _ _ (w.heap.size + 1 + 1 + 1) 32 #[.slice (some ⟨g, 0, none⟩) l.length cap, .bool br, .bool false, .int .i64 (wrap64 (ops + 1))] (0, 0) _ rfl hf2.ret Try.underlying32 rfl (by kernel_rfl)) rfl ⟨some ⟨g, 0, none⟩, cap, ?_, by rw [List.length_set]; exact hcap, hh.out (by have := R1.out; omega) (by have := R1.out; omega) (fun k hk => .inr (by have := (R5.out k hk).1; omega)), hbw⟩
    rw [List.length_set]
    rfl
  · skip
    go_upto_region 11 with (fail)
    go_region
    have hf := ((HF.out.pg1 fd).pg2 ft).below (below_drew (Below.refl _ _))
    have ho := (show ((W5.setCell ⟨w.heap.size + 1, 1, none⟩ (.string fd)).setCell ⟨w.heap.size + 1, 2, none⟩ (.string ft)).drew.heap[Bo]? = _ from (by show ((W5.setCell ⟨w.heap.size + 1, 1, none⟩ (.string fd)).setCell ⟨w.heap.size + 1, 2, none⟩ (.string ft)).heap[Bo]? = _; rw [Below.heap_setCell _ _ _ _ (show Bo ≠ w.heap.size + 1 by have := R4.out; omega), Below.heap_setCell _ _ _ _ (show Bo ≠ w.heap.size + 1 by have := R4.out; omega)])).trans HO.out
    have hh := ((HH.out.far (p := ⟨w.heap.size + 1, 1, none⟩) (fun k hk => show k ≠ w.heap.size + 1 by have := R5.out k hk; omega) (show w.heap.size + 1 ≠ g by have := R1.out; have := R2.out; omega) (show w.heap.size + 1 ≠ g2 by have := R1.out; have := R3.out; omega) (.string fd)).far (p := ⟨w.heap.size + 1, 2, none⟩) (fun k hk => show k ≠ w.heap.size + 1 by have := R5.out k hk; omega) (show w.heap.size + 1 ≠ g by have := R1.out; omega) (show w.heap.size + 1 ≠ g2 by have := R1.out; omega) (.string ft)).drew
    have hb := below_drew (below_set (g := w.heap.size + 1) (j := 2) (v := .string ft) (below_set (g := w.heap.size + 1) (j := 1) (v := .string fd) (HBW.out) (by have := R4.out; have := R1.out; omega)) (by have := R4.out; have := R1.out; omega))
    clear za0 za1 za2 za3 ya0 ya1 ya2 ya3 zb0 zb1 zb2 yb0 yb1 yb2 zc0 zc1 zc2 zc3 yc0 yc1 yc2 yc3 zd0 zd1 zd2 zd3 yd0 yd1 yd2 yd3 zo0 zo1 zo2 zo3 yo0 yo1 yo2 yo3 ze0 ze1 ze2 ze3 ye0 ye1 ye2 ye3 HF HO HH HBW
    generalize ((W5.setCell ⟨w.heap.size + 1, 1, none⟩ (.string fd)).setCell ⟨w.heap.size + 1, 2, none⟩ (.string ft)).drew = W6 at hf ho hh hb ⊢
    obtain ⟨za0, za1, za2, za3, ya0, ya1, ya2, ya3⟩ := blk4 hf.chip; obtain ⟨zb0, zb1, zb2, yb0, yb1, yb2⟩ := blk3 hf.page; obtain ⟨zc0, zc1, zc2, zc3, yc0, yc1, yc2, yc3⟩ := blk4 hf.fate; obtain ⟨zd0, zd1, zd2, zd3, yd0, yd1, yd2, yd3⟩ := blk4 hf.ret
    obtain ⟨zo0, zo1, zo2, zo3, yo0, yo1, yo2, yo3⟩ := blk4 ho
    obtain ⟨ze0, ze1, ze2, ze3, ye0, ye1, ye2, ye3⟩ := hh.cells
    have HF := Aside0.mk hf
    have HO := Aside0.mk ho
    have HH := Aside0.mk hh
    have HBW := Aside0.mk hb
    clear hf ho hh hb
    go_upto_region 15 with (fail)
    have hf := HF.out.far (fun k h1 h2 => Below.heap_setCell W6 ⟨g, b.toNat * 4 + 3, none⟩ (.bool true) k (show k ≠ g by have := R4.out; have := R1.out; omega))
    have ho := (Below.heap_setCell W6 ⟨g, b.toNat * 4 + 3, none⟩ (.bool true) Bo (show Bo ≠ g by have := R4.out; have := R2.out; have := R3.out; omega)).trans HO.out
    have hh := HH.out.bad_ true
    have hb := below_set (g := g) (j := b.toNat * 4 + 3) (v := .bool true) (HBW.out) (by have := R4.out; have := R1.out; omega)
    clear za0 za1 za2 za3 ya0 ya1 ya2 ya3 zb0 zb1 zb2 yb0 yb1 yb2 zc0 zc1 zc2 zc3 yc0 yc1 yc2 yc3 zd0 zd1 zd2 zd3 yd0 yd1 yd2 yd3 zo0 zo1 zo2 zo3 yo0 yo1 yo2 yo3 ze0 ze1 ze2 ze3 ye0 ye1 ye2 ye3 HF HO HH HBW
    generalize W6.setCell ⟨g, b.toNat * 4 + 3, none⟩ (.bool true) = W7 at hf ho hh hb ⊢
    obtain ⟨za0, za1, za2, za3, ya0, ya1, ya2, ya3⟩ := blk4 hf.chip; obtain ⟨zb0, zb1, zb2, yb0, yb1, yb2⟩ := blk3 hf.page; obtain ⟨zc0, zc1, zc2, zc3, yc0, yc1, yc2, yc3⟩ := blk4 hf.fate; obtain ⟨zd0, zd1, zd2, zd3, yd0, yd1, yd2, yd3⟩ := blk4 hf.ret
    obtain ⟨zo0, zo1, zo2, zo3, yo0, yo1, yo2, yo3⟩ := blk4 ho
    obtain ⟨ze0, ze1, ze2, ze3, ye0, ye1, ye2, ye3⟩ := hh.cells
    have HF := Aside0.mk hf
    have HO := Aside0.mk ho
    have HH := Aside0.mk hh
    have HBW := Aside0.mk hb
    clear hf ho hh hb
    obtain ⟨q, hq⟩ : ∃ q, x.f0[p.toNat]? = some q := ⟨_, List.getElem?_eq_getElem (by omega)⟩
    obtain ⟨rfl, zg0, zg1, zg2, yg0, yg1, yg2⟩ := HH.out.page hq
    have HQ := Aside0.mk hq
    clear hq
    go_upto_region 18 with (fail)
    go_region
    clear zg0 zg1 zg2 yg0 yg1 yg2
    have hf := HF.out.far (W1 := (((W7.setCell ⟨g2, p.toNat * 3, none⟩ (.bool true)).setCell ⟨g2, p.toNat * 3 + 1, none⟩ (.string fd)).setCell ⟨g2, p.toNat * 3 + 2, none⟩ (.string ft)).drew) (fun k h1 h2 => (show (((W7.setCell ⟨g2, p.toNat * 3, none⟩ (.bool true)).setCell ⟨g2, p.toNat * 3 + 1, none⟩ (.string fd)).setCell ⟨g2, p.toNat * 3 + 2, none⟩ (.string ft)).heap[k]? = _ from by rw [Below.heap_setCell _ _ _ _ (show k ≠ g2 by have := R1.out; have := R3.out; omega), Below.heap_setCell _ _ _ _ (show k ≠ g2 by have := R1.out; have := R3.out; omega), Below.heap_setCell _ _ _ _ (show k ≠ g2 by have := R1.out; have := R3.out; omega)]))
    have ho := (show (((W7.setCell ⟨g2, p.toNat * 3, none⟩ (.bool true)).setCell ⟨g2, p.toNat * 3 + 1, none⟩ (.string fd)).setCell ⟨g2, p.toNat * 3 + 2, none⟩ (.string ft)).drew.heap[Bo]? = _ from (by show (((W7.setCell ⟨g2, p.toNat * 3, none⟩ (.bool true)).setCell ⟨g2, p.toNat * 3 + 1, none⟩ (.string fd)).setCell ⟨g2, p.toNat * 3 + 2, none⟩ (.string ft)).heap[Bo]? = _; rw [Below.heap_setCell _ _ _ _ (show Bo ≠ g2 by have := R1.out; have := R3.out; omega), Below.heap_setCell _ _ _ _ (show Bo ≠ g2 by have := R1.out; have := R3.out; omega), Below.heap_setCell _ _ _ _ (show Bo ≠ g2 by have := R1.out; have := R3.out; omega)])).trans HO.out
    have hh := (HH.out.pset (j := p.toNat) (by omega) ⟨true, fd, ft⟩).drew
    have hb := below_drew (below_set (g := g2) (j := p.toNat * 3 + 2) (v := .string ft) (below_set (g := g2) (j := p.toNat * 3 + 1) (v := .string fd) (below_set (g := g2) (j := p.toNat * 3) (v := .bool true) (HBW.out) (by have := R4.out; have := R1.out; omega)) (by have := R4.out; have := R1.out; omega)) (by have := R4.out; have := R1.out; omega))
    clear za0 za1 za2 za3 ya0 ya1 ya2 ya3 zb0 zb1 zb2 yb0 yb1 yb2 zc0 zc1 zc2 zc3 yc0 yc1 yc2 yc3 zd0 zd1 zd2 zd3 yd0 yd1 yd2 yd3 zo0 zo1 zo2 zo3 yo0 yo1 yo2 yo3 ze0 ze1 ze2 ze3 ye0 ye1 ye2 ye3 HF HO HH HBW
    generalize (((W7.setCell ⟨g2, p.toNat * 3, none⟩ (.bool true)).setCell ⟨g2, p.toNat * 3 + 1, none⟩ (.string fd)).setCell ⟨g2, p.toNat * 3 + 2, none⟩ (.string ft)).drew = WF at hf ho hh hb ⊢
    obtain ⟨za0, za1, za2, za3, ya0, ya1, ya2, ya3⟩ := blk4 hf.chip; obtain ⟨zb0, zb1, zb2, yb0, yb1, yb2⟩ := blk3 hf.page; obtain ⟨zc0, zc1, zc2, zc3, yc0, yc1, yc2, yc3⟩ := blk4 hf.fate; obtain ⟨zd0, zd1, zd2, zd3, yd0, yd1, yd2, yd3⟩ := blk4 hf.ret
    obtain ⟨zo0, zo1, zo2, zo3, yo0, yo1, yo2, yo3⟩ := blk4 ho
    obtain ⟨ze0, ze1, ze2, ze3, ye0, ye1, ye2, ye3⟩ := hh.cells
    have HF := Aside0.mk hf
    have HO := Aside0.mk ho
    have HH := Aside0.mk hh
    have HBW := Aside0.mk hb
    clear hf ho hh hb
    have rr := R4.out
    have n1 : ¬ Bo = w.heap.size + 1 + 1 + 1 := by omega
    have n2 : ¬ w.heap.size + 1 + 1 + 1 = Bo := by omega
    go_wp2
    have hf2 := HF.out.putR (.slice (some ⟨g, 0, none⟩) l.length cap) (.bool br) (.bool false) (.int .i64 (wrap64 (ops + 1)))
    have hh := HH.out.step (fun k hk _ => far4 _ (w.heap.size + 1 + 1 + 1) (.slice (some ⟨g, 0, none⟩) l.length cap) (.bool br) (.bool false) (.int .i64 (wrap64 (ops + 1))) (show k ≠ w.heap.size + 1 + 1 + 1 by have := R1.out; rcases hk with hk | hk | hk <;> first | (have := (R5.out k hk).1; omega) | omega))
    have hbw := below4 HBW.out (show w.heap.size ≤ w.heap.size + 1 + 1 + 1 by omega) (.slice (some ⟨g, 0, none⟩) l.length cap) (.bool br) (.bool false) (.int .i64 (wrap64 (ops + 1)))
    refine bodyPost_ret (results_ct rfl _ _ (w.heap.size + 1 + 1 + 1) 32 #[.slice (some ⟨g, 0, none⟩) l.length cap, .bool br, .bool false, .int .i64 (wrap64 (ops + 1))] (0, 0) _ rfl hf2.ret Try.underlying32 rfl (by kernel_rfl)) rfl ⟨some ⟨g, 0, none⟩, cap, ?_, by rw [List.length_set]; exact hcap, hh.out (by have := R1.out; omega) (by have := R1.out; omega) (fun k hk => .inr (by have := (R5.out k hk).1; omega)), hbw⟩
    rw [List.length_set]
    rfl
  · skip
    go_upto_region 11 with (fail)
    go_region
    have hf := ((HF.out.pg1 fd).pg2 ft).below (below_drew (Below.refl _ _))
    have ho := (show ((W5.setCell ⟨w.heap.size + 1, 1, none⟩ (.string fd)).setCell ⟨w.heap.size + 1, 2, none⟩ (.string ft)).drew.heap[Bo]? = _ from (by show ((W5.setCell ⟨w.heap.size + 1, 1, none⟩ (.string fd)).setCell ⟨w.heap.size + 1, 2, none⟩ (.string ft)).heap[Bo]? = _; rw [Below.heap_setCell _ _ _ _ (show Bo ≠ w.heap.size + 1 by have := R4.out; omega), Below.heap_setCell _ _ _ _ (show Bo ≠ w.heap.size + 1 by have := R4.out; omega)])).trans HO.out
    have hh := ((HH.out.far (p := ⟨w.heap.size + 1, 1, none⟩) (fun k hk => show k ≠ w.heap.size + 1 by have := R5.out k hk; omega) (show w.heap.size + 1 ≠ g by have := R1.out; have := R2.out; omega) (show w.heap.size + 1 ≠ g2 by have := R1.out; have := R3.out; omega) (.string fd)).far (p := ⟨w.heap.size + 1, 2, none⟩) (fun k hk => show k ≠ w.heap.size + 1 by have := R5.out k hk; omega) (show w.heap.size + 1 ≠ g by have := R1.out; omega) (show w.heap.size + 1 ≠ g2 by have := R1.out; omega) (.string ft)).drew
    have hb := below_drew (below_set (g := w.heap.size + 1) (j := 2) (v := .string ft) (below_set (g := w.heap.size + 1) (j := 1) (v := .string fd) (HBW.out) (by have := R4.out; have := R1.out; omega)) (by have := R4.out; have := R1.out; omega))
    clear za0 za1 za2 za3 ya0 ya1 ya2 ya3 zb0 zb1 zb2 yb0 yb1 yb2 zc0 zc1 zc2 zc3 yc0 yc1 yc2 yc3 zd0 zd1 zd2 zd3 yd0 yd1 yd2 yd3 zo0 zo1 zo2 zo3 yo0 yo1 yo2 yo3 ze0 ze1 ze2 ze3 ye0 ye1 ye2 ye3 HF HO HH HBW
    generalize ((W5.setCell ⟨w.heap.size + 1, 1, none⟩ (.string fd)).setCell ⟨w.heap.size + 1, 2, none⟩ (.string ft)).drew = W6 at hf ho hh hb ⊢
    obtain ⟨za0, za1, za2, za3, ya0, ya1, ya2, ya3⟩ := blk4 hf.chip; obtain ⟨zb0, zb1, zb2, yb0, yb1, yb2⟩ := blk3 hf.page; obtain ⟨zc0, zc1, zc2, zc3, yc0, yc1, yc2, yc3⟩ := blk4 hf.fate; obtain ⟨zd0, zd1, zd2, zd3, yd0, yd1, yd2, yd3⟩ := blk4 hf.ret
    obtain ⟨zo0, zo1, zo2, zo3, yo0, yo1, yo2, yo3⟩ := blk4 ho
    obtain ⟨ze0, ze1, ze2, ze3, ye0, ye1, ye2, ye3⟩ := hh.cells
    have HF := Aside0.mk hf
    have HO := Aside0.mk ho
    have HH := Aside0.mk hh
    have HBW := Aside0.mk hb
    clear hf ho hh hb
    go_upto_region 17 with (fail)
    have hf := HF.out.far (fun k h1 h2 => Below.heap_setCell W6 ⟨Bo, 2, none⟩ (.bool true) k (show k ≠ Bo by have := R4.out; have := R1.out; omega))
    have ho := blk_put HO.out 2 (.bool true) rfl
    have hh := HH.out.far (p := ⟨Bo, 2, none⟩) (fun k hk => show k ≠ Bo by have := R5.out k hk; omega) (show Bo ≠ g by have := R1.out; have := R2.out; omega) (show Bo ≠ g2 by have := R1.out; have := R3.out; omega) (.bool true)
    have hb := below_set (g := Bo) (j := 2) (v := .bool true) (HBW.out) (by have := R4.out; have := R1.out; omega)
    clear za0 za1 za2 za3 ya0 ya1 ya2 ya3 zb0 zb1 zb2 yb0 yb1 yb2 zc0 zc1 zc2 zc3 yc0 yc1 yc2 yc3 zd0 zd1 zd2 zd3 yd0 yd1 yd2 yd3 zo0 zo1 zo2 zo3 yo0 yo1 yo2 yo3 ze0 ze1 ze2 ze3 ye0 ye1 ye2 ye3 HF HO HH HBW
    generalize W6.setCell ⟨Bo, 2, none⟩ (.bool true) = W7 at hf ho hh hb ⊢
    obtain ⟨za0, za1, za2, za3, ya0, ya1, ya2, ya3⟩ := blk4 hf.chip; obtain ⟨zb0, zb1, zb2, yb0, yb1, yb2⟩ := blk3 hf.page; obtain ⟨zc0, zc1, zc2, zc3, yc0, yc1, yc2, yc3⟩ := blk4 hf.fate; obtain ⟨zd0, zd1, zd2, zd3, yd0, yd1, yd2, yd3⟩ := blk4 hf.ret
    obtain ⟨zo0, zo1, zo2, zo3, yo0, yo1, yo2, yo3⟩ := blk4 ho
    obtain ⟨ze0, ze1, ze2, ze3, ye0, ye1, ye2, ye3⟩ := hh.cells
    have HF := Aside0.mk hf
    have HO := Aside0.mk ho
    have HH := Aside0.mk hh
    have HBW := Aside0.mk hb
    clear hf ho hh hb
    obtain ⟨q, hq⟩ : ∃ q, x.f0[p.toNat]? = some q := ⟨_, List.getElem?_eq_getElem (by omega)⟩
    obtain ⟨rfl, zg0, zg1, zg2, yg0, yg1, yg2⟩ := HH.out.page hq
    have HQ := Aside0.mk hq
    clear hq
    go_upto_region 18 with (fail)
    go_region
    clear zg0 zg1 zg2 yg0 yg1 yg2
    have hf := HF.out.far (W1 := (((W7.setCell ⟨g2, p.toNat * 3, none⟩ (.bool true)).setCell ⟨g2, p.toNat * 3 + 1, none⟩ (.string fd)).setCell ⟨g2, p.toNat * 3 + 2, none⟩ (.string ft)).drew) (fun k h1 h2 => (show (((W7.setCell ⟨g2, p.toNat * 3, none⟩ (.bool true)).setCell ⟨g2, p.toNat * 3 + 1, none⟩ (.string fd)).setCell ⟨g2, p.toNat * 3 + 2, none⟩ (.string ft)).heap[k]? = _ from by rw [Below.heap_setCell _ _ _ _ (show k ≠ g2 by have := R1.out; have := R3.out; omega), Below.heap_setCell _ _ _ _ (show k ≠ g2 by have := R1.out; have := R3.out; omega), Below.heap_setCell _ _ _ _ (show k ≠ g2 by have := R1.out; have := R3.out; omega)]))
    have ho := (show (((W7.setCell ⟨g2, p.toNat * 3, none⟩ (.bool true)).setCell ⟨g2, p.toNat * 3 + 1, none⟩ (.string fd)).setCell ⟨g2, p.toNat * 3 + 2, none⟩ (.string ft)).drew.heap[Bo]? = _ from (by show (((W7.setCell ⟨g2, p.toNat * 3, none⟩ (.bool true)).setCell ⟨g2, p.toNat * 3 + 1, none⟩ (.string fd)).setCell ⟨g2, p.toNat * 3 + 2, none⟩ (.string ft)).heap[Bo]? = _; rw [Below.heap_setCell _ _ _ _ (show Bo ≠ g2 by have := R1.out; have := R3.out; omega), Below.heap_setCell _ _ _ _ (show Bo ≠ g2 by have := R1.out; have := R3.out; omega), Below.heap_setCell _ _ _ _ (show Bo ≠ g2 by have := R1.out; have := R3.out; omega)])).trans HO.out
    have hh := (HH.out.pset (j := p.toNat) (by omega) ⟨true, fd, ft⟩).drew
    have hb := below_drew (below_set (g := g2) (j := p.toNat * 3 + 2) (v := .string ft) (below_set (g := g2) (j := p.toNat * 3 + 1) (v := .string fd) (below_set (g := g2) (j := p.toNat * 3) (v := .bool true) (HBW.out) (by have := R4.out; have := R1.out; omega)) (by have := R4.out; have := R1.out; omega)) (by have := R4.out; have := R1.out; omega))
    clear za0 za1 za2 za3 ya0 ya1 ya2 ya3 zb0 zb1 zb2 yb0 yb1 yb2 zc0 zc1 zc2 zc3 yc0 yc1 yc2 yc3 zd0 zd1 zd2 zd3 yd0 yd1 yd2 yd3 zo0 zo1 zo2 zo3 yo0 yo1 yo2 yo3 ze0 ze1 ze2 ze3 ye0 ye1 ye2 ye3 HF HO HH HBW
    generalize (((W7.setCell ⟨g2, p.toNat * 3, none⟩ (.bool true)).setCell ⟨g2, p.toNat * 3 + 1, none⟩ (.string fd)).setCell ⟨g2, p.toNat * 3 + 2, none⟩ (.string ft)).drew = WF at hf ho hh hb ⊢
    obtain ⟨za0, za1, za2, za3, ya0, ya1, ya2, ya3⟩ := blk4 hf.chip; obtain ⟨zb0, zb1, zb2, yb0, yb1, yb2⟩ := blk3 hf.page; obtain ⟨zc0, zc1, zc2, zc3, yc0, yc1, yc2, yc3⟩ := blk4 hf.fate; obtain ⟨zd0, zd1, zd2, zd3, yd0, yd1, yd2, yd3⟩ := blk4 hf.ret
    obtain ⟨zo0, zo1, zo2, zo3, yo0, yo1, yo2, yo3⟩ := blk4 ho
    obtain ⟨ze0, ze1, ze2, ze3, ye0, ye1, ye2, ye3⟩ := hh.cells
    have HF := Aside0.mk hf
    have HO := Aside0.mk ho
    have HH := Aside0.mk hh
    have HBW := Aside0.mk hb
    clear hf ho hh hb
    have rr := R4.out
    have n1 : ¬ Bo = w.heap.size + 1 + 1 + 1 := by omega
    have n2 : ¬ w.heap.size + 1 + 1 + 1 = Bo := by omega
    go_wp2
    have hf2 := HF.out.putR (.slice (some ⟨g, 0, none⟩) l.length cap) (.bool br) (.bool true) (.int .i64 (wrap64 (ops + 1)))
    have hh := HH.out.step (fun k hk _ => far4 _ (w.heap.size + 1 + 1 + 1) (.slice (some ⟨g, 0, none⟩) l.length cap) (.bool br) (.bool true) (.int .i64 (wrap64 (ops + 1))) (show k ≠ w.heap.size + 1 + 1 + 1 by have := R1.out; rcases hk with hk | hk | hk <;> first | (have := (R5.out k hk).1; omega) | omega))
    have hbw := below4 HBW.out (show w.heap.size ≤ w.heap.size + 1 + 1 + 1 by omega) (.slice (some ⟨g, 0, none⟩) l.length cap) (.bool br) (.bool true) (.int .i64 (wrap64 (ops + 1)))
    have h5 := H5.out
    rw [h5] at hh
    refine bodyPost_ret (results_ct rfl _ _ (w.heap.size + 1 + 1 + 1) 32 #[.slice (some ⟨g, 0, none⟩) l.length cap, .bool br, .bool true, .int .i64 (wrap64 (ops + 1))] (0, 0) _ rfl hf2.ret Try.underlying32 rfl (by kernel_rfl)) rfl ⟨some ⟨g, 0, none⟩, cap, ?_, by rw [List.length_set]; exact hcap, hh.out (by have := R1.out; omega) (by have := R1.out; omega) (fun k hk => .inr (by have := (R5.out k hk).1; omega)), hbw⟩
    rw [List.length_set]
    rfl
end Go.Proofs.Ytfolonajajideaa.X
