/- Read, on both sides; what any right chip answers. -/
import Derived.Test.YthjjngfbpoapnaaChipAll
namespace Go.Proofs.Ythjjngfbpoapnaa.X
open Go.RowKit Go.Proofs.Ythjjngfbpoapnaa.PAll Go.Proofs.YthjjngfbpoapnaaW.PrintWords Go.Proofs.YthjjngfbpoapnaaW.PrintLast Go.Proofs.YthjjngfbpoapnaaW.PrintMore
set_option linter.unusedVariables false
set_option linter.unusedSimpArgs false
theorem put3 {W : World} {B T : Nat} {a0 b0 c0 : Value} (h : W.heap[B]? = some (.cells #[a0, b0, c0] T (0, 0))) (a b c : Value) :
    (((W.setCell ⟨B, 0, none⟩ a).setCell ⟨B, 1, none⟩ b).setCell ⟨B, 2, none⟩ c).heap[B]? = some (.cells #[a, b, c] T (0, 0)) :=
  blk_put (cs := #[a, b, c0]) (blk_put (cs := #[a, b0, c0]) (blk_put h 0 a rfl) 1 b rfl) 2 c rfl
theorem below3 {w W : World} {B : Nat} (h : Below w.heap.size w W) (hB : w.heap.size ≤ B) (a b c : Value) : Below w.heap.size w (((W.setCell ⟨B, 0, none⟩ a).setCell ⟨B, 1, none⟩ b).setCell ⟨B, 2, none⟩ c) :=
  below_set (below_set (below_set h hB) hB) hB
/-- A page as it is read, and the error. -/
def readV (l : List Blk) (off : Bool) (b p : Int) : Pg × Int := if off = true then (zP, 52) else if thereB l b p = true then (rd_T46 (rdB l b).f0 p, 0) else (zP, 1)
theorem there_iff {l : List Blk} {b p : Int} : thereB l b p = true ↔ 0 ≤ b ∧ b < l.length ∧ 0 ≤ p ∧ p < (rdB l b).f0.length := by
  unfold thereB; simp
theorem there_at {l : List Blk} {b p : Int} (h : thereB l b p = true) : (rdB l b).f0[p.toNat]? = some (rd_T46 (rdB l b).f0 p) := by
  obtain ⟨_, _, h2, h3⟩ := there_iff.1 h
  show _ = some ((rdB l b).f0.getD p.toNat zP)
  rw [List.getD_eq_getElem?_getD, List.getElem?_eq_getElem (by omega)]
  rfl
set_option maxHeartbeats 2000000 in
set_option maxRecDepth 100000 in
theorem nread_any (A : Option Addr) (c : Nat) (l : List Blk) (br off : Bool) (ops b p : Int) (w : World) (hC : Kd.C kB w A l.length l) (hs : sm l = true) :
    Calls Try.prog 18 #[.agg #[.slice A l.length c, .bool br, .bool off, .int .i64 ops], .int .i64 b, .int .i64 p] w fun e w' => e = .returned (.tuple #[.agg #[.bool (readV l off b p).1.f0, .string (readV l off b p).1.f1, .string (readV l off b p).1.f2], .int .i64 (readV l off b p).2]) ∧ Below w.heap.size w w' := by
  have hlm : l.length ≤ 9223372036854775807 := hC.2.1
  cases off with
  | true =>
    rw [show readV l true b p = (zP, 52) from rfl]
    clear hC hs
    go_enter Try.func18, Try.ntmps18
    go_wp2
    exact bodyPost_ret (v := .tuple #[.agg #[.bool false, .string ⟨#[]⟩, .string ⟨#[]⟩], .int .i64 52]) (by simp [results, Try.results18, go_sem]) rfl ⟨rfl, ((Below.refl _ w).alloc (Nat.le_refl _) _).alloc (by simp) _⟩
  | false =>
    cases ht : thereB l b p with
    | true =>
      rw [show readV l false b p = (rd_T46 (rdB l b).f0 p, 0) by unfold readV; rw [if_neg (by simp), if_pos ht]]
      obtain ⟨h0, h1, h2, h3⟩ := there_iff.1 ht
      obtain ⟨ad, A0, c0, rfl, z0, z1, z2, z3, _, hP⟩ := at_T44 (Kd.C_below hC (((Below.refl _ w).alloc (Nat.le_refl _) (.cells #[.slice A l.length c, .bool br, .bool false, .int .i64 ops] 27)).alloc (by simp) (.cells #[.bool false, .string ⟨#[]⟩, .string ⟨#[]⟩] 46))) b h0 h1
      have hpm : (rd_T44 l b).f0.length ≤ 9223372036854775807 := hP.2.1
      obtain ⟨ad2, rfl, z4, z5, z6⟩ := at_T46 hP p h2 h3
      obtain ⟨x, hx⟩ : ∃ x, rd_T44 l b = x := ⟨_, rfl⟩
      rw [hx] at z0 z4 z5 z6 hpm
      rw [show rdB l b = x from hx] at h3 ⊢
      obtain ⟨q, hq⟩ : ∃ q, rd_T46 x.f0 p = q := ⟨_, rfl⟩
      rw [hq] at z4 z5 z6 ⊢
      clear hC hs ht hP hx hq z1 z2 z3
      go_enter Try.func18, Try.ntmps18
      go_wp2
      exact bodyPost_ret (v := .tuple #[.agg #[.bool q.f0, .string q.f1, .string q.f2], .int .i64 0]) (by simp [results, Try.results18, go_sem]) rfl ⟨rfl, ((Below.refl _ w).alloc (Nat.le_refl _) _).alloc (by simp) _⟩
    | false =>
      rw [show readV l false b p = (zP, 1) by unfold readV; rw [if_neg (by simp), if_neg (by rw [ht]; simp)]]
      by_cases h0 : b < 0
      · clear hC hs ht
        go_enter Try.func18, Try.ntmps18
        go_wp2
        exact bodyPost_ret (v := .tuple #[.agg #[.bool false, .string ⟨#[]⟩, .string ⟨#[]⟩], .int .i64 1]) (by simp [results, Try.results18, go_sem]) rfl ⟨rfl, ((Below.refl _ w).alloc (Nat.le_refl _) _).alloc (by simp) _⟩
      have h0 : 0 ≤ b := by omega
      by_cases h1 : (l.length : Int) ≤ b
      · clear hC hs ht
        go_enter Try.func18, Try.ntmps18
        go_wp2
        exact bodyPost_ret (v := .tuple #[.agg #[.bool false, .string ⟨#[]⟩, .string ⟨#[]⟩], .int .i64 1]) (by simp [results, Try.results18, go_sem]) rfl ⟨rfl, ((Below.refl _ w).alloc (Nat.le_refl _) _).alloc (by simp) _⟩
      have h1 : b < (l.length : Int) := by omega
      by_cases h2 : p < 0
      · clear hC hs ht
        go_enter Try.func18, Try.ntmps18
        go_wp2
        exact bodyPost_ret (v := .tuple #[.agg #[.bool false, .string ⟨#[]⟩, .string ⟨#[]⟩], .int .i64 1]) (by simp [results, Try.results18, go_sem]) rfl ⟨rfl, ((Below.refl _ w).alloc (Nat.le_refl _) _).alloc (by simp) _⟩
      have h2 : 0 ≤ p := by omega
      have h3 : ((rdB l b).f0.length : Int) ≤ p := by
        by_cases h3 : p < ((rdB l b).f0.length : Int)
        · rw [there_iff.2 ⟨h0, h1, h2, h3⟩] at ht; cases ht
        · omega
      obtain ⟨ad, A0, c0, rfl, z0, z1, z2, z3, _, hP⟩ := at_T44 (Kd.C_below hC (((Below.refl _ w).alloc (Nat.le_refl _) (.cells #[.slice A l.length c, .bool br, .bool false, .int .i64 ops] 27)).alloc (by simp) (.cells #[.bool false, .string ⟨#[]⟩, .string ⟨#[]⟩] 46))) b h0 h1
      have hpm : (rd_T44 l b).f0.length ≤ 9223372036854775807 := hP.2.1
      obtain ⟨x, hx⟩ : ∃ x, rd_T44 l b = x := ⟨_, rfl⟩
      rw [hx] at z0 hpm
      rw [show rdB l b = x from hx] at h3
      clear hC hs ht hP hx z1 z2 z3
      go_enter Try.func18, Try.ntmps18
      go_wp2
      exact bodyPost_ret (v := .tuple #[.agg #[.bool false, .string ⟨#[]⟩, .string ⟨#[]⟩], .int .i64 1]) (by simp [results, Try.results18, go_sem]) rfl ⟨rfl, ((Below.refl _ w).alloc (Nat.le_refl _) _).alloc (by simp) _⟩
set_option maxHeartbeats 2000000 in
set_option maxRecDepth 100000 in
theorem rread_any (A : Option Addr) (c : Nat) (l : List Blk) (br off : Bool) (ops b p : Int) (w : World) (hC : Kd.C kB w A l.length l) (hs : sm l = true) :
    Calls Try.prog 30 #[.agg #[.slice A l.length c, .bool br, .bool off, .int .i64 ops], .int .i64 b, .int .i64 p] w fun e w' => e = .returned (.tuple #[.agg #[.bool (readV l off b p).1.f0, .string (readV l off b p).1.f1, .string (readV l off b p).1.f2], .int .i64 (readV l off b p).2]) ∧ Below w.heap.size w w' := by
  have hlm : l.length ≤ 9223372036854775807 := hC.2.1
  cases off with
  | true =>
    rw [show readV l true b p = (zP, 52) from rfl]
    clear hC hs
    go_enter Try.func30, Try.ntmps30
    go_wp2
    exact bodyPost_ret (v := .tuple #[.agg #[.bool false, .string ⟨#[]⟩, .string ⟨#[]⟩], .int .i64 52]) (by simp [results, Try.results30, go_sem]) rfl ⟨rfl, ((Below.refl _ w).alloc (Nat.le_refl _) _).alloc (by simp) _⟩
  | false =>
    cases ht : thereB l b p with
    | true =>
      rw [show readV l false b p = (rd_T46 (rdB l b).f0 p, 0) by unfold readV; rw [if_neg (by simp), if_pos ht]]
      obtain ⟨h0, h1, h2, h3⟩ := there_iff.1 ht
      have hB0 : Below w.heap.size w ((w.alloc (.cells #[.slice A l.length c, .bool br, .bool false, .int .i64 ops] 27)).alloc (.cells #[.bool false, .string ⟨#[]⟩, .string ⟨#[]⟩] 46)) := ((Below.refl _ w).alloc (Nat.le_refl _) _).alloc (by simp) _
      have TH := Aside0.mk (there_any A c l br false ops b p ((w.alloc (.cells #[.slice A l.length c, .bool br, .bool false, .int .i64 ops] 27)).alloc (.cells #[.bool false, .string ⟨#[]⟩, .string ⟨#[]⟩] 46)) (Kd.C_below hC hB0) hs)
      have hq0 : ((w.alloc (.cells #[.slice A l.length c, .bool br, .bool false, .int .i64 ops] 27)).alloc (.cells #[.bool false, .string ⟨#[]⟩, .string ⟨#[]⟩] 46)).heap[w.heap.size]? = some (.cells #[.slice A l.length c, .bool br, .bool false, .int .i64 ops] 27 (0, 0)) := blk_alloc (alloc_at _ _) _
      have hq1 : ((w.alloc (.cells #[.slice A l.length c, .bool br, .bool false, .int .i64 ops] 27)).alloc (.cells #[.bool false, .string ⟨#[]⟩, .string ⟨#[]⟩] 46)).heap[w.heap.size + 1]? = some (.cells #[.bool false, .string ⟨#[]⟩, .string ⟨#[]⟩] 46 (0, 0)) := by
        have := alloc_at (w.alloc (.cells #[.slice A l.length c, .bool br, .bool false, .int .i64 ops] 27)) (.cells #[.bool false, .string ⟨#[]⟩, .string ⟨#[]⟩] 46)
        simpa using this
      obtain ⟨W0, hW⟩ : ∃ W0 : World, ((w.alloc (.cells #[.slice A l.length c, .bool br, .bool false, .int .i64 ops] 27)).alloc (.cells #[.bool false, .string ⟨#[]⟩, .string ⟨#[]⟩] 46)) = W0 := ⟨_, rfl⟩
      rw [hW] at hB0 TH hq0 hq1
      have HW := Aside0.mk hW
      have HB0 := Aside0.mk hB0
      have HQ0 := Aside0.mk hq0
      have HQ1 := Aside0.mk hq1
      rw [ht] at TH
      have HC := Aside0.mk hC
      obtain ⟨ad, _, _, rfl, _, _, _, _, _, hP0⟩ := at_T44 hC b h0 h1
      have hpm : (rd_T44 l b).f0.length ≤ 9223372036854775807 := hP0.2.1
      obtain ⟨x, hx⟩ : ∃ x, rd_T44 l b = x := ⟨_, rfl⟩
      rw [hx] at hpm
      rw [show rdB l b = x from hx] at h3 ⊢
      obtain ⟨q, hq⟩ : ∃ q, rd_T46 x.f0 p = q := ⟨_, rfl⟩
      rw [hq]
      have HX := Aside0.mk hx
      have HQ := Aside0.mk hq
      clear hC hs ht hP0 hx hq hW hB0 hq0 hq1
      go_enter Try.func30, Try.ntmps30
      go_wp2_with (first | (go_at_call 33; rw [HW.out]; refine TH.out.mono ?_; rintro e1 w1 ⟨rfl, hb1⟩; have q0 := (hb1.block _ (blk_lt HQ0.out)).trans HQ0.out; have q1 := (hb1.block _ (blk_lt HQ1.out)).trans HQ1.out; obtain ⟨zo0, zo1, zo2, zo3, yo0, yo1, yo2, yo3⟩ := blk4 q0; obtain ⟨zr0, zr1, zr2, yr0, yr1, yr2⟩ := blk3 q1; obtain ⟨ad_, A0, c0, hq_, z0, z1, z2, z3, _, hP⟩ := at_T44 (Kd.C_below HC.out (below_step HB0.out hb1)) b h0 h1; cases hq_; rw [HX.out] at z0 hP; obtain ⟨ad2, rfl, z4, z5, z6⟩ := at_T46 hP p h2 h3; rw [HQ.out] at z4 z5 z6; clear hP z1 z2 z3; have HBW := Aside0.mk (below_step HB0.out hb1); have HR1 := Aside0.mk q1; clear hb1 q0 q1))
      exact bodyPost_ret (results_ct rfl _ _ (w.heap.size + 1) 46 #[.bool q.f0, .string q.f1, .string q.f2] (0, 0) _ rfl (put3 HR1.out _ _ _) Try.underlying46 rfl (by kernel_rfl)) rfl ⟨rfl, below3 HBW.out (show w.heap.size ≤ w.heap.size + 1 by omega) _ _ _⟩
    | false =>
      rw [show readV l false b p = (zP, 1) by unfold readV; rw [if_neg (by simp), if_neg (by rw [ht]; simp)]]
      have hB0 : Below w.heap.size w ((w.alloc (.cells #[.slice A l.length c, .bool br, .bool false, .int .i64 ops] 27)).alloc (.cells #[.bool false, .string ⟨#[]⟩, .string ⟨#[]⟩] 46)) := ((Below.refl _ w).alloc (Nat.le_refl _) _).alloc (by simp) _
      have TH := Aside0.mk (there_any A c l br false ops b p ((w.alloc (.cells #[.slice A l.length c, .bool br, .bool false, .int .i64 ops] 27)).alloc (.cells #[.bool false, .string ⟨#[]⟩, .string ⟨#[]⟩] 46)) (Kd.C_below hC hB0) hs)
      have hq0 : ((w.alloc (.cells #[.slice A l.length c, .bool br, .bool false, .int .i64 ops] 27)).alloc (.cells #[.bool false, .string ⟨#[]⟩, .string ⟨#[]⟩] 46)).heap[w.heap.size]? = some (.cells #[.slice A l.length c, .bool br, .bool false, .int .i64 ops] 27 (0, 0)) := blk_alloc (alloc_at _ _) _
      have hq1 : ((w.alloc (.cells #[.slice A l.length c, .bool br, .bool false, .int .i64 ops] 27)).alloc (.cells #[.bool false, .string ⟨#[]⟩, .string ⟨#[]⟩] 46)).heap[w.heap.size + 1]? = some (.cells #[.bool false, .string ⟨#[]⟩, .string ⟨#[]⟩] 46 (0, 0)) := by
        have := alloc_at (w.alloc (.cells #[.slice A l.length c, .bool br, .bool false, .int .i64 ops] 27)) (.cells #[.bool false, .string ⟨#[]⟩, .string ⟨#[]⟩] 46)
        simpa using this
      obtain ⟨W0, hW⟩ : ∃ W0 : World, ((w.alloc (.cells #[.slice A l.length c, .bool br, .bool false, .int .i64 ops] 27)).alloc (.cells #[.bool false, .string ⟨#[]⟩, .string ⟨#[]⟩] 46)) = W0 := ⟨_, rfl⟩
      rw [hW] at hB0 TH hq0 hq1
      have HW := Aside0.mk hW
      have HB0 := Aside0.mk hB0
      have HQ0 := Aside0.mk hq0
      have HQ1 := Aside0.mk hq1
      rw [ht] at TH
      have HC := Aside0.mk hC
      clear hC hs ht hW hB0 hq0 hq1
      go_enter Try.func30, Try.ntmps30
      go_wp2_with (first | (go_at_call 33; rw [HW.out]; refine TH.out.mono ?_; rintro e1 w1 ⟨rfl, hb1⟩; have q0 := (hb1.block _ (blk_lt HQ0.out)).trans HQ0.out; have q1 := (hb1.block _ (blk_lt HQ1.out)).trans HQ1.out; obtain ⟨zo0, zo1, zo2, zo3, yo0, yo1, yo2, yo3⟩ := blk4 q0; obtain ⟨zr0, zr1, zr2, yr0, yr1, yr2⟩ := blk3 q1; have HBW := Aside0.mk (below_step HB0.out hb1); have HR1 := Aside0.mk q1; clear hb1 q0 q1))
      exact bodyPost_ret (results_ct rfl _ _ (w.heap.size + 1) 46 #[.bool false, .string ⟨#[]⟩, .string ⟨#[]⟩] (0, 0) _ rfl (put3 HR1.out _ _ _) Try.underlying46 rfl (by kernel_rfl)) rfl ⟨rfl, below3 HBW.out (show w.heap.size ≤ w.heap.size + 1 by omega) _ _ _⟩
theorem Out.op {P : Nat → Prop} {w w' : World} {e : Ending} {r1 : List Blk} {r2 r3 : Bool} {r4 r5 : Int} (h : Out P w w' e (r1, r2, r3, r4, r5)) : ∃ (A : Option Addr) (c : Nat), e = .returned (.tuple #[.agg #[.slice A r1.length c, .bool r2, .bool r3, .int .i64 r4], .int .i64 r5]) ∧ r1.length ≤ c ∧
    Kd.F kB w' (fun k => P k ∨ w.heap.size ≤ k) A r1.length r1 ∧ Below w.heap.size w w' := h
theorem lit1 {W : World} {g t : Nat} {a : Int} (hk : W.heap[g]? = some (.cells #[.int .i64 a] t (0, 0))) : ReadsOf (Value.int .i64) (0 : Int) W (some ⟨g, 0, none⟩) [a].length [a] := by
  refine ⟨rfl, by simp, fun _ => ⟨_, rfl, fun j hj => ?_⟩⟩
  have hj2 : j < 1 := hj
  obtain rfl : j = 0 := by omega
  exact (blk_cell hk 0).trans rfl
/-- The chips that awake makes. -/
def awC : List Blk := rowL 2 (List.replicate 4 zP) [1]
def awD : List Blk := (progV awC false false 0 0 0 (⟨#[120]⟩ : ByteArray) (⟨#[121]⟩ : ByteArray) 0 (⟨#[]⟩ : ByteArray) (⟨#[]⟩ : ByteArray)).1
def awX : List Blk := (eraV awD false false 1 0 0 0).1
theorem aw_n1 : newV 2 4 [1] = (awC, false, false, 0, 0) := by kernel_rfl
theorem aw_p1 : progV awC false false 0 0 0 (⟨#[120]⟩ : ByteArray) (⟨#[121]⟩ : ByteArray) 0 (⟨#[]⟩ : ByteArray) (⟨#[]⟩ : ByteArray) = (awD, false, false, 1, 0) := by kernel_rfl
theorem aw_r1 : readV awD false 0 0 = (⟨true, (⟨#[120]⟩ : ByteArray), (⟨#[121]⟩ : ByteArray)⟩, 0) := by kernel_rfl
theorem aw_p2 : progV awC false false 0 1 0 (⟨#[]⟩ : ByteArray) (⟨#[]⟩ : ByteArray) 0 (⟨#[]⟩ : ByteArray) (⟨#[]⟩ : ByteArray) = (awC, true, false, 0, 1) := by kernel_rfl
theorem aw_e1 : eraV awD false false 1 0 0 0 = (awX, false, false, 2, 0) := by kernel_rfl
theorem aw_n2 : newV 0 1 [] = ([], false, false, 0, 1) := by kernel_rfl
theorem aw_lc : awC.length = 2 := by kernel_rfl
theorem aw_ld : awD.length = 2 := by kernel_rfl
theorem aw_lx : awX.length = 2 := by kernel_rfl
theorem aw_x0 : (rd_T44 awX 0).f2 = 1 := by kernel_rfl
theorem aw_sc : sm awC = true := by kernel_rfl
theorem aw_sd : sm awD = true := by kernel_rfl
set_option maxHeartbeats 4000000 in
set_option maxRecDepth 100000 in
theorem awake_any (w : World) : Calls Try.prog 11 #[] w fun e w' => e = .returned (.bool true) ∧ Below w.heap.size w w' := by
  obtain ⟨W0, hW⟩ : ∃ W0 : World, w.alloc (.cells #[.int .i64 1] 3) = W0 := ⟨_, rfl⟩
  have hb : Below w.heap.size w W0 := by rw [← hW]; exact (Below.refl _ w).alloc (Nat.le_refl _) _
  have hk : W0.heap[w.heap.size]? = some (.cells #[.int .i64 1] 3 (0, 0)) := by rw [← hW]; exact alloc_at _ _
  have HW := Aside0.mk hW
  have HB := Aside0.mk hb
  have HK := Aside0.mk hk
  clear hW hb hk
  go_enter Try.func11, Try.ntmps11
  go_upto_region 2 with (first | (go_at_call 12; rw [HW.out]; refine (nnew_any 2 4 (some ⟨w.heap.size, 0, none⟩) 1 [1] (fun _ => True) W0 (lit1 HK.out)).mono ?_; intro e_ w_ ho; rw [aw_n1] at ho; obtain ⟨A1, c1, rfl, hc, hF, hbn⟩ := ho.op; rw [aw_lc] at hc hF ⊢; have HFN := Aside0.mk hF; have HC1 := Aside0.mk hc; have HBN := Aside0.mk hbn; clear ho hF hbn hc))
  have hb := below_alloc (below_step HB.out HBN.out) (.cells #[.slice A1 2 c1, .bool false, .bool false, .int .i64 0] 27)
  have kc := alloc_at w_ (.cells #[.slice A1 2 c1, .bool false, .bool false, .int .i64 0] 27)
  have f1 := Kd.C_alloc (Kd.F_now HFN.out) (.cells #[.slice A1 2 c1, .bool false, .bool false, .int .i64 0] 27)
  clear HB HFN
  generalize w_.alloc (.cells #[.slice A1 2 c1, .bool false, .bool false, .int .i64 0] 27) = W2 at hb kc f1 ⊢
  clear HBN
  generalize w_.heap.size = bc at kc ⊢
  have HB := Aside0.mk hb
  have KKc := Aside0.mk kc
  obtain ⟨zc0, zc1, zc2, zc3, yc0, yc1, yc2, yc3⟩ := blk4 kc
  have G1 := Aside0.mk f1
  clear hb kc f1
  go_upto_region 3 with (first | (go_at_call 19; refine (nprog_any A1 c1 awC false false 0 0 0 false (⟨#[120]⟩ : ByteArray) (⟨#[121]⟩ : ByteArray) 0 (⟨#[]⟩ : ByteArray) (⟨#[]⟩ : ByteArray) 0 (fun _ => True) _ (show Kd.F kB _ (fun _ => True) A1 awC.length awC from Kd.F_mono (Kd.C_F kB_heap (by rw [aw_lc]; exact G1.out)) (fun _ _ => trivial)) (by rw [aw_lc]; exact HC1.out) aw_sc).mono ?_; intro e_ w_ ho; rw [aw_p1] at ho; obtain ⟨A2, c2, rfl, hc, hF, hbn⟩ := ho.op; rw [aw_ld] at hc hF ⊢; have HFN := Aside0.mk hF; have HC2 := Aside0.mk hc; have HBN := Aside0.mk hbn; clear ho hF hbn hc))
  have hb := below_alloc (below_step HB.out HBN.out) (.cells #[.slice A2 2 c2, .bool false, .bool false, .int .i64 1] 27)
  have kd := alloc_at w_ (.cells #[.slice A2 2 c2, .bool false, .bool false, .int .i64 1] 27)
  have kc := blk_alloc ((HBN.out.block _ (blk_lt KKc.out)).trans KKc.out) (.cells #[.slice A2 2 c2, .bool false, .bool false, .int .i64 1] 27)
  have f1 := Kd.C_alloc (Kd.C_below G1.out HBN.out) (.cells #[.slice A2 2 c2, .bool false, .bool false, .int .i64 1] 27)
  have f2 := Kd.C_alloc (Kd.F_now HFN.out) (.cells #[.slice A2 2 c2, .bool false, .bool false, .int .i64 1] 27)
  clear zc0 zc1 zc2 zc3 yc0 yc1 yc2 yc3 KKc G1 HB HFN
  generalize w_.alloc (.cells #[.slice A2 2 c2, .bool false, .bool false, .int .i64 1] 27) = W3 at hb kc kd f1 f2 ⊢
  clear HBN
  generalize w_.heap.size = bd at kd ⊢
  have HB := Aside0.mk hb
  have KKc := Aside0.mk kc
  obtain ⟨zc0, zc1, zc2, zc3, yc0, yc1, yc2, yc3⟩ := blk4 kc
  have KKd := Aside0.mk kd
  obtain ⟨zd0, zd1, zd2, zd3, yd0, yd1, yd2, yd3⟩ := blk4 kd
  have G1 := Aside0.mk f1
  have G2 := Aside0.mk f2
  clear hb kc kd f1 f2
  go_upto_region 4 with (first | (go_at_call 18; refine (nread_any A2 c2 awD false false 1 0 0 _ (show Kd.C kB _ A2 awD.length awD by rw [aw_ld]; exact G2.out) aw_sd).mono ?_; intro e_ w_ ho; rw [aw_r1] at ho; dsimp only at ho; obtain ⟨rfl, hbn⟩ := ho; have HBN := Aside0.mk hbn; clear hbn))
  have hb := below_alloc (below_step HB.out HBN.out) (.cells #[.bool true, .string (⟨#[120]⟩ : ByteArray), .string (⟨#[121]⟩ : ByteArray)] 46)
  have kp := alloc_at w_ (.cells #[.bool true, .string (⟨#[120]⟩ : ByteArray), .string (⟨#[121]⟩ : ByteArray)] 46)
  have kc := blk_alloc ((HBN.out.block _ (blk_lt KKc.out)).trans KKc.out) (.cells #[.bool true, .string (⟨#[120]⟩ : ByteArray), .string (⟨#[121]⟩ : ByteArray)] 46)
  have kd := blk_alloc ((HBN.out.block _ (blk_lt KKd.out)).trans KKd.out) (.cells #[.bool true, .string (⟨#[120]⟩ : ByteArray), .string (⟨#[121]⟩ : ByteArray)] 46)
  have f1 := Kd.C_alloc (Kd.C_below G1.out HBN.out) (.cells #[.bool true, .string (⟨#[120]⟩ : ByteArray), .string (⟨#[121]⟩ : ByteArray)] 46)
  have f2 := Kd.C_alloc (Kd.C_below G2.out HBN.out) (.cells #[.bool true, .string (⟨#[120]⟩ : ByteArray), .string (⟨#[121]⟩ : ByteArray)] 46)
  clear zc0 zc1 zc2 zc3 yc0 yc1 yc2 yc3 zd0 zd1 zd2 zd3 yd0 yd1 yd2 yd3 KKc KKd G1 G2 HB
  generalize w_.alloc (.cells #[.bool true, .string (⟨#[120]⟩ : ByteArray), .string (⟨#[121]⟩ : ByteArray)] 46) = W4 at hb kc kd kp f1 f2 ⊢
  clear HBN
  generalize w_.heap.size = bp at kp ⊢
  have HB := Aside0.mk hb
  have KKc := Aside0.mk kc
  obtain ⟨zc0, zc1, zc2, zc3, yc0, yc1, yc2, yc3⟩ := blk4 kc
  have KKd := Aside0.mk kd
  obtain ⟨zd0, zd1, zd2, zd3, yd0, yd1, yd2, yd3⟩ := blk4 kd
  have KKp := Aside0.mk kp
  obtain ⟨zp0, zp1, zp2, yp0, yp1, yp2⟩ := blk3 kp
  have G1 := Aside0.mk f1
  have G2 := Aside0.mk f2
  clear hb kc kd kp f1 f2
  go_upto_region 5 with (first | (go_at_call 19; refine (nprog_any A1 c1 awC false false 0 1 0 false (⟨#[]⟩ : ByteArray) (⟨#[]⟩ : ByteArray) 0 (⟨#[]⟩ : ByteArray) (⟨#[]⟩ : ByteArray) 0 (fun _ => True) _ (show Kd.F kB _ (fun _ => True) A1 awC.length awC from Kd.F_mono (Kd.C_F kB_heap (by rw [aw_lc]; exact G1.out)) (fun _ _ => trivial)) (by rw [aw_lc]; exact HC1.out) aw_sc).mono ?_; intro e_ w_ ho; rw [aw_p2] at ho; obtain ⟨A3, c3, rfl, hc, hF, hbn⟩ := ho.op; rw [aw_lc] at hc hF ⊢; have HFN := Aside0.mk hF; have HC3 := Aside0.mk hc; have HBN := Aside0.mk hbn; clear ho hF hbn hc))
  have hb := below_alloc (below_step HB.out HBN.out) (.cells #[.slice A3 2 c3, .bool true, .bool false, .int .i64 0] 27)
  have kb := alloc_at w_ (.cells #[.slice A3 2 c3, .bool true, .bool false, .int .i64 0] 27)
  have kc := blk_alloc ((HBN.out.block _ (blk_lt KKc.out)).trans KKc.out) (.cells #[.slice A3 2 c3, .bool true, .bool false, .int .i64 0] 27)
  have kd := blk_alloc ((HBN.out.block _ (blk_lt KKd.out)).trans KKd.out) (.cells #[.slice A3 2 c3, .bool true, .bool false, .int .i64 0] 27)
  have kp := blk_alloc ((HBN.out.block _ (blk_lt KKp.out)).trans KKp.out) (.cells #[.slice A3 2 c3, .bool true, .bool false, .int .i64 0] 27)
  have f1 := Kd.C_alloc (Kd.C_below G1.out HBN.out) (.cells #[.slice A3 2 c3, .bool true, .bool false, .int .i64 0] 27)
  have f2 := Kd.C_alloc (Kd.C_below G2.out HBN.out) (.cells #[.slice A3 2 c3, .bool true, .bool false, .int .i64 0] 27)
  have f3 := Kd.C_alloc (Kd.F_now HFN.out) (.cells #[.slice A3 2 c3, .bool true, .bool false, .int .i64 0] 27)
  clear zc0 zc1 zc2 zc3 yc0 yc1 yc2 yc3 zd0 zd1 zd2 zd3 yd0 yd1 yd2 yd3 zp0 zp1 zp2 yp0 yp1 yp2 KKc KKd KKp G1 G2 HB HFN
  generalize w_.alloc (.cells #[.slice A3 2 c3, .bool true, .bool false, .int .i64 0] 27) = W5 at hb kc kd kp kb f1 f2 f3 ⊢
  clear HBN
  generalize w_.heap.size = bb at kb ⊢
  have HB := Aside0.mk hb
  have KKc := Aside0.mk kc
  obtain ⟨zc0, zc1, zc2, zc3, yc0, yc1, yc2, yc3⟩ := blk4 kc
  have KKd := Aside0.mk kd
  obtain ⟨zd0, zd1, zd2, zd3, yd0, yd1, yd2, yd3⟩ := blk4 kd
  have KKp := Aside0.mk kp
  obtain ⟨zp0, zp1, zp2, yp0, yp1, yp2⟩ := blk3 kp
  have KKb := Aside0.mk kb
  obtain ⟨zb0, zb1, zb2, zb3, yb0, yb1, yb2, yb3⟩ := blk4 kb
  have G1 := Aside0.mk f1
  have G2 := Aside0.mk f2
  have G3 := Aside0.mk f3
  clear hb kc kd kp kb f1 f2 f3
  go_upto_region 6 with (first | (go_at_call 17; refine (nerase_any A2 c2 awD false false 1 0 0 (⟨#[]⟩ : ByteArray) (⟨#[]⟩ : ByteArray) 0 (fun _ => True) _ (show Kd.F kB _ (fun _ => True) A2 awD.length awD from Kd.F_mono (Kd.C_F kB_heap (by rw [aw_ld]; exact G2.out)) (fun _ _ => trivial)) (by rw [aw_ld]; exact HC2.out) aw_sd).mono ?_; intro e_ w_ ho; rw [aw_e1] at ho; obtain ⟨A4, c4, rfl, hc, hF, hbn⟩ := ho.op; rw [aw_lx] at hc hF ⊢; have HFN := Aside0.mk hF; have HC4 := Aside0.mk hc; have HBN := Aside0.mk hbn; clear ho hF hbn hc))
  have hb := below_alloc (below_step HB.out HBN.out) (.cells #[.slice A4 2 c4, .bool false, .bool false, .int .i64 2] 27)
  have kx := alloc_at w_ (.cells #[.slice A4 2 c4, .bool false, .bool false, .int .i64 2] 27)
  have kc := blk_alloc ((HBN.out.block _ (blk_lt KKc.out)).trans KKc.out) (.cells #[.slice A4 2 c4, .bool false, .bool false, .int .i64 2] 27)
  have kd := blk_alloc ((HBN.out.block _ (blk_lt KKd.out)).trans KKd.out) (.cells #[.slice A4 2 c4, .bool false, .bool false, .int .i64 2] 27)
  have kp := blk_alloc ((HBN.out.block _ (blk_lt KKp.out)).trans KKp.out) (.cells #[.slice A4 2 c4, .bool false, .bool false, .int .i64 2] 27)
  have kb := blk_alloc ((HBN.out.block _ (blk_lt KKb.out)).trans KKb.out) (.cells #[.slice A4 2 c4, .bool false, .bool false, .int .i64 2] 27)
  have f1 := Kd.C_alloc (Kd.C_below G1.out HBN.out) (.cells #[.slice A4 2 c4, .bool false, .bool false, .int .i64 2] 27)
  have f2 := Kd.C_alloc (Kd.C_below G2.out HBN.out) (.cells #[.slice A4 2 c4, .bool false, .bool false, .int .i64 2] 27)
  have f3 := Kd.C_alloc (Kd.C_below G3.out HBN.out) (.cells #[.slice A4 2 c4, .bool false, .bool false, .int .i64 2] 27)
  have f4 := Kd.C_alloc (Kd.F_now HFN.out) (.cells #[.slice A4 2 c4, .bool false, .bool false, .int .i64 2] 27)
  clear zc0 zc1 zc2 zc3 yc0 yc1 yc2 yc3 zd0 zd1 zd2 zd3 yd0 yd1 yd2 yd3 zp0 zp1 zp2 yp0 yp1 yp2 zb0 zb1 zb2 zb3 yb0 yb1 yb2 yb3 KKc KKd KKp KKb G1 G2 G3 HB HFN
  generalize w_.alloc (.cells #[.slice A4 2 c4, .bool false, .bool false, .int .i64 2] 27) = W6 at hb kc kd kp kb kx f1 f2 f3 f4 ⊢
  clear HBN
  generalize w_.heap.size = bx at kx ⊢
  have HB := Aside0.mk hb
  have KKc := Aside0.mk kc
  obtain ⟨zc0, zc1, zc2, zc3, yc0, yc1, yc2, yc3⟩ := blk4 kc
  have KKd := Aside0.mk kd
  obtain ⟨zd0, zd1, zd2, zd3, yd0, yd1, yd2, yd3⟩ := blk4 kd
  have KKp := Aside0.mk kp
  obtain ⟨zp0, zp1, zp2, yp0, yp1, yp2⟩ := blk3 kp
  have KKb := Aside0.mk kb
  obtain ⟨zb0, zb1, zb2, zb3, yb0, yb1, yb2, yb3⟩ := blk4 kb
  have KKx := Aside0.mk kx
  obtain ⟨zx0, zx1, zx2, zx3, yx0, yx1, yx2, yx3⟩ := blk4 kx
  have G1 := Aside0.mk f1
  have G2 := Aside0.mk f2
  have G3 := Aside0.mk f3
  have G4 := Aside0.mk f4
  clear hb kc kd kp kb kx f1 f2 f3 f4
  go_upto_region 7 with (first | (go_at_call 12; refine (nnew_any 0 1 none 0 [] (fun _ => True) _ (by refine ⟨rfl, by simp, fun h => by simp at h⟩)).mono ?_; intro e_ w_ ho; rw [aw_n2] at ho; obtain ⟨A5, c5, rfl, hc, hF, hbn⟩ := ho.op; have HFN := Aside0.mk hF; have HC5 := Aside0.mk hc; have HBN := Aside0.mk hbn; clear ho hF hbn hc))
  have hb := below_alloc (below_step HB.out HBN.out) (.cells #[.slice A5 0 c5, .bool false, .bool false, .int .i64 0] 27)
  have kn := alloc_at w_ (.cells #[.slice A5 0 c5, .bool false, .bool false, .int .i64 0] 27)
  have kc := blk_alloc ((HBN.out.block _ (blk_lt KKc.out)).trans KKc.out) (.cells #[.slice A5 0 c5, .bool false, .bool false, .int .i64 0] 27)
  have kd := blk_alloc ((HBN.out.block _ (blk_lt KKd.out)).trans KKd.out) (.cells #[.slice A5 0 c5, .bool false, .bool false, .int .i64 0] 27)
  have kp := blk_alloc ((HBN.out.block _ (blk_lt KKp.out)).trans KKp.out) (.cells #[.slice A5 0 c5, .bool false, .bool false, .int .i64 0] 27)
  have kb := blk_alloc ((HBN.out.block _ (blk_lt KKb.out)).trans KKb.out) (.cells #[.slice A5 0 c5, .bool false, .bool false, .int .i64 0] 27)
  have kx := blk_alloc ((HBN.out.block _ (blk_lt KKx.out)).trans KKx.out) (.cells #[.slice A5 0 c5, .bool false, .bool false, .int .i64 0] 27)
  have f1 := Kd.C_alloc (Kd.C_below G1.out HBN.out) (.cells #[.slice A5 0 c5, .bool false, .bool false, .int .i64 0] 27)
  have f2 := Kd.C_alloc (Kd.C_below G2.out HBN.out) (.cells #[.slice A5 0 c5, .bool false, .bool false, .int .i64 0] 27)
  have f3 := Kd.C_alloc (Kd.C_below G3.out HBN.out) (.cells #[.slice A5 0 c5, .bool false, .bool false, .int .i64 0] 27)
  have f4 := Kd.C_alloc (Kd.C_below G4.out HBN.out) (.cells #[.slice A5 0 c5, .bool false, .bool false, .int .i64 0] 27)
  have f5 := Kd.C_alloc (Kd.F_now HFN.out) (.cells #[.slice A5 0 c5, .bool false, .bool false, .int .i64 0] 27)
  clear zc0 zc1 zc2 zc3 yc0 yc1 yc2 yc3 zd0 zd1 zd2 zd3 yd0 yd1 yd2 yd3 zp0 zp1 zp2 yp0 yp1 yp2 zb0 zb1 zb2 zb3 yb0 yb1 yb2 yb3 zx0 zx1 zx2 zx3 yx0 yx1 yx2 yx3 KKc KKd KKp KKb KKx G1 G2 G3 G4 HB HFN
  generalize w_.alloc (.cells #[.slice A5 0 c5, .bool false, .bool false, .int .i64 0] 27) = W7 at hb kc kd kp kb kx kn f1 f2 f3 f4 f5 ⊢
  clear HBN
  generalize w_.heap.size = bn at kn ⊢
  have HB := Aside0.mk hb
  have KKc := Aside0.mk kc
  obtain ⟨zc0, zc1, zc2, zc3, yc0, yc1, yc2, yc3⟩ := blk4 kc
  have KKd := Aside0.mk kd
  obtain ⟨zd0, zd1, zd2, zd3, yd0, yd1, yd2, yd3⟩ := blk4 kd
  have KKp := Aside0.mk kp
  obtain ⟨zp0, zp1, zp2, yp0, yp1, yp2⟩ := blk3 kp
  have KKb := Aside0.mk kb
  obtain ⟨zb0, zb1, zb2, zb3, yb0, yb1, yb2, yb3⟩ := blk4 kb
  have KKx := Aside0.mk kx
  obtain ⟨zx0, zx1, zx2, zx3, yx0, yx1, yx2, yx3⟩ := blk4 kx
  have KKn := Aside0.mk kn
  obtain ⟨zn0, zn1, zn2, zn3, yn0, yn1, yn2, yn3⟩ := blk4 kn
  have G1 := Aside0.mk f1
  have G2 := Aside0.mk f2
  have G3 := Aside0.mk f3
  have G4 := Aside0.mk f4
  have G5 := Aside0.mk f5
  clear hb kc kd kp kb kx kn f1 f2 f3 f4 f5
  obtain ⟨ad, A0, c0, hA, _, _, z70, _, _, _⟩ := at_T44 (show Kd.C kB W7 A4 awX.length awX by rw [aw_lx]; exact G4.out) 0 (by omega) (by rw [aw_lx]; omega)
  rw [aw_x0] at z70
  have z7 : W7.cell? ⟨ad.block, ad.off + 2, none⟩ = some (.int .i64 1) := z70
  clear z70
  rw [hA] at zx0
  clear hA
  go_wp2
  exact bodyPost_ret (v := .bool true) (by simp [results, Try.results11, go_sem]) rfl ⟨rfl, HB.out⟩
end Go.Proofs.Ythjjngfbpoapnaa.X
