/- The walk of the statements' record by numbers: the whole function. -/
import Derived.Test.YtfolonajajideaaTagMade
namespace Go.Proofs.Ytfolonajajideaa.X
open Go.RowKit Go.Proofs.YtfolonajajideaaW.PrintWords Go.Proofs.YtfolonajajideaaW.PrintLast Go.Proofs.YtfolonajajideaaW.PrintMore
theorem wrap64_in' {i : Int} (h0 : -9223372036854775808 ≤ i) (h1 : i ≤ 9223372036854775807) : wrap64 i = i := by
  unfold wrap64
  omega
theorem R_stay {e base b : Nat} {W W1 : World} {ok : Nat → Prop} {v : Value} {xs : List Int} (h : Kd.R (Kd.int .i64) e W base ok v xs) (hp : b < base) {j : Nat} (u : Value) (hw : W1 = W.setCell ⟨b, j, none⟩ u) : Kd.R (Kd.int .i64) e W1 base ok v xs := by
  subst hw
  exact Kd.R_mono (Kd.R_far (Kd.R_bound h) (fun k hk => by have := hk.2.1; show k ≠ b; omega) u) (fun _ hk => hk.1)
theorem else_E {b : Bool} {X Y E : Prop} (hb : b = true) (h : if b = true then X else Y) : if b = true then X else E := by
  rw [if_pos hb] at h ⊢
  exact h
theorem set4x {w : World} {p t : Nat} {c0 c1 c2 c3 : Value} (a b c d : Value) (h0 : w.heap[p]? = some (.cells #[c0, c1, c2, c3] t (0, 0))) :
    ((((w.setCell ⟨p, 0, none⟩ a).setCell ⟨p, 1, none⟩ b).setCell ⟨p, 2, none⟩ c).setCell ⟨p, 3, none⟩ d).heap[p]? = some (.cells #[a, b, c, d] t (0, 0)) := by
  have a0 := blk_put h0 0 a rfl
  have a1 := blk_put a0 1 b rfl
  have a2 := blk_put a1 2 c rfl
  exact blk_put a2 3 d rfl
theorem R_stay4 {e base p : Nat} {W : World} {ok : Nat → Prop} {v : Value} {xs : List Int} (h : Kd.R (Kd.int .i64) e W base ok v xs) (hp : p < base) (a b c d : Value) : Kd.R (Kd.int .i64) e ((((W.setCell ⟨p, 0, none⟩ a).setCell ⟨p, 1, none⟩ b).setCell ⟨p, 2, none⟩ c).setCell ⟨p, 3, none⟩ d) base ok v xs :=
  R_stay (R_stay (R_stay (R_stay h hp a rfl) hp b rfl) hp c rfl) hp d rfl
set_option maxHeartbeats 8000000 in
set_option maxRecDepth 100000 in
theorem made_any (A : Option Addr) (c : Nat) (l : List Int) (hl : ∀ x ∈ l, 0 ≤ x ∧ x ≤ 65535) (w : World) (hr : ReadsOf (Value.int .u16) (0 : Int) w A l.length l) (hA : 0 < l.length → ∀ ad, A = some ad → ad.block < w.heap.size) :
    Calls Try.prog 37 #[.slice A l.length c] w fun e w' => ∃ v2_ v3_ : Value, e = .returned (.agg #[.int .i64 (madeV l).1, .int .i64 (madeV l).2.1, v2_, v3_]) ∧ Kd.R (Kd.int .i64) 3 w' w.heap.size (fun k_ => some k_ ≠ v3_.ownBlock) v2_ (madeV l).2.2.1 ∧ Kd.R (Kd.int .i64) 3 w' w.heap.size (fun k_ => some k_ ≠ v2_.ownBlock) v3_ (madeV l).2.2.2 ∧ Below w.heap.size w w' := by
  have hmf : ∀ (fn : Fn) (first cap : Array Value) (w : World), (Instr.makeFunc fn first cap).run Try.prog w = .ok (.func fn first cap) w := fun _ _ _ _ => rfl
  obtain ⟨kL, kO, kR, kA⟩ := fourObj w (.cells #[.slice A l.length c] 29) (.cells #[.int .i64 0, .int .i64 0, .slice none 0 0, .slice none 0 0] 42) (.cells #[.int .i64 0, .int .i64 0, .slice none 0 0, .slice none 0 0] 42) (.cells #[.int .i64 0] 3)
  have M0 := Aside0.mk (show MS w A c l 0 0 (.slice none 0 0) (.slice none 0 0) 0 _ from ⟨kL, kO, kR, kA, ((((Below.refl w.heap.size w).alloc (Nat.le_refl _) _).alloc (by simp) _).alloc (by simp; omega) _).alloc (by simp; omega) _⟩)
  have CA := Aside0.mk (fun (kind seq : Int) (vk vv : Value) (j : Nat) (W : World) (h : MS w A c l kind seq vk vv j W) (hj : j ≤ 1000) (n : Int) (hn : 0 < n) (hn2 : n ≤ 100000) => h.call hl hj hr hA n hn hn2)
  clear kL kO kR kA
  obtain ⟨p0, hp0⟩ : ∃ x, pk l 0 2 = x := ⟨_, rfl⟩
  obtain ⟨p1, hp1⟩ : ∃ x, pk l 1 60000 = x := ⟨_, rfl⟩
  obtain ⟨p2, hp2⟩ : ∃ x, pk l 2 1000 = x := ⟨_, rfl⟩
  obtain ⟨p3, hp3⟩ : ∃ x, pk l 3 20 = x := ⟨_, rfl⟩
  obtain ⟨p4, hp4⟩ : ∃ x, pk l 4 8 = x := ⟨_, rfl⟩
  have i0 := hp0 ▸ pk_in l 0 (n := 2) (by omega)
  have i1 := hp1 ▸ pk_in l 1 (n := 60000) (by omega)
  have i2 := hp2 ▸ pk_in l 2 (n := 1000) (by omega)
  have i3 := hp3 ▸ pk_in l 3 (n := 20) (by omega)
  have i4 := hp4 ▸ pk_in l 4 (n := 8) (by omega)
  obtain ⟨r3, hr3⟩ : ∃ x, (madeV l).2.2.1 = x := ⟨_, rfl⟩
  obtain ⟨r4, hr4⟩ : ∃ x, (madeV l).2.2.2 = x := ⟨_, rfl⟩
  have hm : madeL l (1 + p0) (p4 + 1).toNat p3 5 [] [] = (r3, r4) := by
    rw [← hr3, ← hr4]
    unfold madeV
    rw [hp0, hp3, hp4]
  have hk : (madeV l).1 = 1 + p0 := by unfold madeV; rw [hp0]
  have hs : (madeV l).2.1 = p1 * (1 + p2) := by unfold madeV; rw [hp1, hp2]
  rw [hk, hs, hr3, hr4]
  clear hk hs hr3 hr4
  have HM := Aside0.mk hm
  clear hm hr hA
  obtain ⟨kd, hkd⟩ : ∃ x, 1 + p0 = x := ⟨_, rfl⟩
  rw [hkd] at HM ⊢
  have w1 : wrap64 (1 + p0) = kd := by rw [hkd]; unfold wrap64; omega
  have w2 : wrap64 (1 + p2) = 1 + p2 := by unfold wrap64; omega
  have hq : 0 ≤ p1 * (1 + p2) ∧ p1 * (1 + p2) ≤ 60000 * 1000 := ⟨Int.mul_nonneg (by omega) (by omega), Int.mul_le_mul (by omega) (by omega) (by omega) (by omega)⟩
  have w3 : wrap64 (p1 * (1 + p2)) = p1 * (1 + p2) := wrap64_in' (by omega) (by omega)
  have HP0 := Aside0.mk hp0
  have HP1 := Aside0.mk hp1
  have HP2 := Aside0.mk hp2
  have HP3 := Aside0.mk hp3
  have HP4 := Aside0.mk hp4
  clear hp0 hp1 hp2 hp3 hp4
  have ga1_ := Aside0.mk True.intro
  have ga2_ := Aside0.mk True.intro
  have ga3_ := Aside0.mk True.intro
  have ga4_ := Aside0.mk True.intro
  have ga5_ := Aside0.mk True.intro
  go_enter Try.func37, Try.ntmps37
  go_wp2_with (first
    | (go_at_call 47; have g_ := ga1_; clear g_ ga1_; refine (CA.out _ _ _ _ 0 _ M0.out (by omega) 2 (by omega) (by omega)).mono ?_; rintro e w1 ⟨rfl, hw⟩; rw [HP0.out]; have M1 := Aside0.mk (hw ▸ M0.out.pick); clear hw; obtain ⟨z0, z1, z2, z3, y0, y1, y2, y3⟩ := M1.out.cells)
    | (go_at_call 47; have g_ := ga2_; clear g_ ga2_; refine (CA.out _ _ _ _ 1 _ (M1.out.set0 _) (by omega) 60000 (by omega) (by omega)).mono ?_; rintro e w2 ⟨rfl, hw⟩; rw [HP1.out]; have M2 := Aside0.mk (hw ▸ (M1.out.set0 _).pick); clear hw z0 z1 z2 z3 y0 y1 y2 y3)
    | (go_at_call 47; have g_ := ga3_; clear g_ ga3_; refine (CA.out _ _ _ _ 2 _ M2.out (by omega) 1000 (by omega) (by omega)).mono ?_; rintro e w3 ⟨rfl, hw⟩; rw [HP2.out]; have M3 := Aside0.mk (hw ▸ M2.out.pick); clear hw; obtain ⟨z0, z1, z2, z3, y0, y1, y2, y3⟩ := M3.out.cells)
    | (go_at_call 47; have g_ := ga4_; clear g_ ga4_; refine (CA.out _ _ _ _ 3 _ (M3.out.set1 _) (by omega) 20 (by omega) (by omega)).mono ?_; rintro e w4 ⟨rfl, hw⟩; rw [HP3.out]; have M4 := Aside0.mk (hw ▸ (M3.out.set1 _).pick); clear hw z0 z1 z2 z3 y0 y1 y2 y3)
    | (go_at_call 47; have g_ := ga5_; clear g_ ga5_; refine (CA.out _ _ _ _ 4 _ M4.out (by omega) 8 (by omega) (by omega)).mono ?_; rintro e w5 ⟨rfl, hw⟩; rw [HP4.out]; have M5 := Aside0.mk (hw ▸ M4.out.pick); clear hw))

  go_loopw [6, 7] (fun key i wr => ∃ (n j : Nat) (kv : Int) (ks vs : List Int) (vk vv : Value), key = .int .i64 kv ∧ i = .int .i64 ((n : Int) - 1) ∧ ks.length + n ≤ 8 ∧ vs.length + n ≤ 8 ∧ 0 ≤ kv ∧ kv ≤ 100 ∧ j + 2 * n ≤ 30 ∧
      Aside0 (madeL l kd n kv j ks vs = (r3, r4)) ∧ Aside0 (MS w A c l kd (p1 * (1 + p2)) vk vv j wr) ∧
      Aside0 (Kd.R (Kd.int .i64) 3 wr (w.heap.size + 1 + 1 + 1 + 1) (fun k => True ∧ some k ≠ vv.ownBlock) vk ks) ∧ Aside0 (Kd.R (Kd.int .i64) 3 wr (w.heap.size + 1 + 1 + 1 + 1) (fun k => True ∧ some k ≠ vk.ownBlock) vv vs))
    (fun _ i _ => (intOf i + 1).toNat)
  case atStart => exact ⟨(p4 + 1).toNat, 5, p3, [], [], _, _, rfl, by congr 1; omega, by simp; omega, by simp; omega, by omega, by omega, by omega, HM, M5, ⟨Kd.R_nil _ _ _ _ _⟩, ⟨Kd.R_nil _ _ _ _ _⟩⟩
  case round =>
    clear M0 M1 M2 M3 M4 M5 HM
    obtain ⟨n, j, kv, ks, vs, vk, vv, rfl, rfl, hks, hvs, hk0, hk1, hj, HM, MM, HK, HV⟩ := hrel
    obtain ⟨Ak, ck, rfl⟩ := Kd.R_slice HK.out
    obtain ⟨Av, cv, rfl⟩ := Kd.R_slice HV.out
    by_cases hgo : 0 ≤ (n : Int) - 1 ∧ kv < 64
    case neg =>
      have hend : madeL l kd n kv j ks vs = (ks, vs) := by
        match n, hgo with
        | 0, _ => rfl
        | n + 1, hgo => rw [madeL, if_neg (by omega)]
      have hrs : (ks, vs) = (r3, r4) := hend.symm.trans HM.out
      obtain rfl : ks = r3 := congrArg Prod.fst hrs
      obtain rfl : vs = r4 := congrArg Prod.snd hrs
      clear hend hrs HM
      obtain ⟨z0, z1, z2, z3, y0, y1, y2, y3⟩ := MM.out.cells
      have x0 := (blk_cell MM.out.hO 0).trans rfl
      have x1 := (blk_cell MM.out.hO 1).trans rfl
      have x2 := (blk_cell MM.out.hO 2).trans rfl
      have x3 := (blk_cell MM.out.hO 3).trans rfl
      have v0 := blk_frozen MM.out.hO 0
      have v1 := blk_frozen MM.out.hO 1
      have v2 := blk_frozen MM.out.hO 2
      have v3 := blk_frozen MM.out.hO 3
      have q := set4x (.int .i64 kd) (.int .i64 (p1 * (1 + p2))) (.slice Ak ks.length ck) (.slice Av vs.length cv) MM.out.hO
      have q0 := (blk_cell q 0).trans rfl
      have q1 := (blk_cell q 1).trans rfl
      have q2 := (blk_cell q 2).trans rfl
      have q3 := (blk_cell q 3).trans rfl
      have RK := Aside0.mk (Kd.R_mono (Kd.R_lower (R_stay4 HK.out (p := w.heap.size + 1) (by omega) (.int .i64 kd) (.int .i64 (p1 * (1 + p2))) (.slice Ak ks.length ck) (.slice Av vs.length cv)) (show w.heap.size ≤ w.heap.size + 1 + 1 + 1 + 1 by omega)) (fun _ hk => hk.2))
      have RV := Aside0.mk (Kd.R_mono (Kd.R_lower (R_stay4 HV.out (p := w.heap.size + 1) (by omega) (.int .i64 kd) (.int .i64 (p1 * (1 + p2))) (.slice Ak ks.length ck) (.slice Av vs.length cv)) (show w.heap.size ≤ w.heap.size + 1 + 1 + 1 + 1 by omega)) (fun _ hk => hk.2))
      have B9 := Aside0.mk ((((MM.out.hB.setCell (p := ⟨w.heap.size + 1, 0, none⟩) (show w.heap.size ≤ w.heap.size + 1 by omega) (.int .i64 kd)).setCell (p := ⟨w.heap.size + 1, 1, none⟩) (show w.heap.size ≤ w.heap.size + 1 by omega) (.int .i64 (p1 * (1 + p2)))).setCell (p := ⟨w.heap.size + 1, 2, none⟩) (show w.heap.size ≤ w.heap.size + 1 by omega) (.slice Ak ks.length ck)).setCell (p := ⟨w.heap.size + 1, 3, none⟩) (show w.heap.size ≤ w.heap.size + 1 by omega) (.slice Av vs.length cv))
      clear q
      by_cases hn : 0 ≤ (n : Int) - 1
      · have hkv : ¬ kv < 64 := fun h => hgo ⟨hn, h⟩
        clear hgo
        go_wp2
        refine bodyPost_ret (v := .agg #[.int .i64 kd, .int .i64 (p1 * (1 + p2)), .slice Ak ks.length ck, .slice Av vs.length cv]) (by simp [results, Try.results37, go_sem, q0, q1, q2, q3]) rfl ⟨_, _, rfl, RK.out, RV.out, B9.out⟩
      · clear hgo
        go_wp2
        refine bodyPost_ret (v := .agg #[.int .i64 kd, .int .i64 (p1 * (1 + p2)), .slice Ak ks.length ck, .slice Av vs.length cv]) (by simp [results, Try.results37, go_sem, q0, q1, q2, q3]) rfl ⟨_, _, rfl, RK.out, RV.out, B9.out⟩
    case pos =>
      obtain ⟨hn, hkv⟩ := hgo
      obtain ⟨n, rfl⟩ : ∃ m, n = m + 1 := ⟨n - 1, by omega⟩
      obtain ⟨kp, hkp⟩ : ∃ x, pk l j 10 = x := ⟨_, rfl⟩
      have ikp := hkp ▸ pk_in l j (n := 10) (by omega)
      have e1 : ((n + 1 : Nat) : Int) - 1 = (n : Int) := by omega
      rw [e1] at hn ⊢
      have hst : madeL l kd (n + 1) kv j ks vs = if kd = 2 then madeL l kd n (kv + 1 + kp) (j + 2) (ks ++ [kv]) (vs ++ [pk l (j + 1) 513 - 1]) else madeL l kd n (kv + 1 + kp) (j + 1) (ks ++ [kv]) vs := by
        rw [madeL, if_pos hkv, hkp]
      rw [hst] at HM
      have HKP := Aside0.mk hkp
      clear hst hkp
      obtain ⟨z0, z1, z2, z3, y0, y1, y2, y3⟩ := MM.out.cells
      have wk1 : wrap64 (kv + 1) = kv + 1 := by unfold wrap64; omega
      have wk2 : wrap64 (kv + 1 + kp) = kv + 1 + kp := by unfold wrap64; omega
      have wn : wrap64 ((n : Int) - 1) = (n : Int) - 1 := by unfold wrap64; omega
      have hu := Try.underlying42
      have ga6_ := Aside0.mk True.intro
      have hl1 : (ks ++ [kv]).length = ks.length + 1 := by simp
      by_cases hp2 : kd = 2
      case neg =>
        rw [if_neg hp2] at HM
        have b2 : (kd == 2) = false := beq_eq_false_iff_ne.mpr hp2
        go_wp2_with (first
          | ((with_reducible refine gate_builtin (b := .append) (xs := #[.tmp 33, .tmp 35]) rfl ?_); at_builtin; refine Kd.R_append (Kd.int .i64) (w0 := wr) (w.heap.size + 1 + 1 + 1 + 1) rfl (.tmp 33) (.tmp 35) 22 3 (.int .i64 0) 8 rfl Try.underlying22 info_int rfl (by decide) (by omega) (.slice Ak ks.length ck) ks kv [.int .i64 kv] (fun k => True ∧ some k ≠ (Value.slice Av vs.length cv).ownBlock) (fun _ => False) rfl rfl ?aP (fun _ hk => hk.elim) ?aF ?aO ?aB ?aS ?aL ?_; (case aP => exact rfl); (case aB => exact Below.refl _ _); (case aF => exact (fun k hk => ⟨trivial, fun e => by have := Kd.R_lt HV.out k e.symm; omega⟩)); (case aO => exact HK.out); (case aS => exact blk_lt MM.out.hA); (case aL => omega); intro v1 w6 ho hb hg hat; obtain ⟨A6, c6, hv1⟩ := Kd.R_slice ho; rw [hl1] at hv1; subst hv1; have M6 := Aside0.mk (MM.out.grown hg (fun k e => by have := Kd.R_base HK.out k e; omega)); have HV6 := Kd.R_after HV.out hg hat; clear z0 z1 z2 z3 y0 y1 y2 y3; obtain ⟨z0, z1, z2, z3, y0, y1, y2, y3⟩ := M6.out.cells; have M7 := Aside0.mk (M6.out.set2 (.slice A6 (ks.length + 1) c6)); have HK7 := Aside0.mk (R_stay ho (show w.heap.size + 1 + 1 < w.heap.size + 1 + 1 + 1 + 1 by omega) (j := 2) (.slice A6 (ks.length + 1) c6) rfl); have HV7 := Aside0.mk (R_stay HV6 (show w.heap.size + 1 + 1 < w.heap.size + 1 + 1 + 1 + 1 by omega) (j := 2) (.slice A6 (ks.length + 1) c6) rfl); clear ho hb hg hat HV6)
          | (go_at_call 47; have g_ := ga6_; clear g_ ga6_; refine (CA.out _ _ _ _ j _ M7.out (by omega) 10 (by omega) (by omega)).mono ?_; rintro e w8 ⟨rfl, hw⟩; rw [HKP.out]; have M8 := Aside0.mk (hw ▸ M7.out.pick); have HK8 := Aside0.mk (R_stay HK7.out (show w.heap.size + 1 + 1 + 1 < w.heap.size + 1 + 1 + 1 + 1 by omega) _ hw); have HV8 := Aside0.mk (R_stay HV7.out (show w.heap.size + 1 + 1 + 1 < w.heap.size + 1 + 1 + 1 + 1 by omega) _ hw); clear hw z0 z1 z2 z3 y0 y1 y2 y3; obtain ⟨z0, z1, z2, z3, y0, y1, y2, y3⟩ := M8.out.cells))
        go_roundw
        case rel => exact ⟨n, j + 1, kv + 1 + kp, ks ++ [kv], vs, .slice A6 (ks.length + 1) c6, .slice Av vs.length cv, rfl, rfl, by omega, by omega, by omega, by omega, by omega, HM, M8, HK8, HV8⟩
        case measure => simp [intOf]
      case pos =>
        rw [if_pos hp2] at HM
        have b2 : (kd == 2) = true := beq_iff_eq.mpr hp2
        clear hp2
        go_wp2_with (first
          | ((with_reducible refine gate_builtin (b := .append) (xs := #[.tmp 33, .tmp 35]) rfl ?_); at_builtin; refine Kd.R_append (Kd.int .i64) (w0 := wr) (w.heap.size + 1 + 1 + 1 + 1) rfl (.tmp 33) (.tmp 35) 22 3 (.int .i64 0) 8 rfl Try.underlying22 info_int rfl (by decide) (by omega) (.slice Ak ks.length ck) ks kv [.int .i64 kv] (fun k => True ∧ some k ≠ (Value.slice Av vs.length cv).ownBlock) (fun _ => False) rfl rfl ?aP (fun _ hk => hk.elim) ?aF ?aO ?aB ?aS ?aL ?_; (case aP => exact rfl); (case aB => exact Below.refl _ _); (case aF => exact (fun k hk => ⟨trivial, fun e => by have := Kd.R_lt HV.out k e.symm; omega⟩)); (case aO => exact HK.out); (case aS => exact blk_lt MM.out.hA); (case aL => omega); intro v1 w6 ho hb hg hat; obtain ⟨A6, c6, hv1⟩ := Kd.R_slice ho; rw [hl1] at hv1; subst hv1; have M6 := Aside0.mk (MM.out.grown hg (fun k e => by have := Kd.R_base HK.out k e; omega)); have HV6 := Kd.R_after HV.out hg hat; clear z0 z1 z2 z3 y0 y1 y2 y3; obtain ⟨z0, z1, z2, z3, y0, y1, y2, y3⟩ := M6.out.cells; have M7 := Aside0.mk (M6.out.set2 (.slice A6 (ks.length + 1) c6)); have HK7 := Aside0.mk (R_stay ho (show w.heap.size + 1 + 1 < w.heap.size + 1 + 1 + 1 + 1 by omega) (j := 2) (.slice A6 (ks.length + 1) c6) rfl); have HV7 := Aside0.mk (R_stay HV6 (show w.heap.size + 1 + 1 < w.heap.size + 1 + 1 + 1 + 1 by omega) (j := 2) (.slice A6 (ks.length + 1) c6) rfl); clear ho hb hg hat HV6)
          | (go_at_call 47; have g_ := ga6_; clear g_ ga6_; refine (CA.out _ _ _ _ j _ M7.out (by omega) 10 (by omega) (by omega)).mono ?_; rintro e w8 ⟨rfl, hw⟩; rw [HKP.out]; have M8 := Aside0.mk (hw ▸ M7.out.pick); have HK8 := Aside0.mk (R_stay HK7.out (show w.heap.size + 1 + 1 + 1 < w.heap.size + 1 + 1 + 1 + 1 by omega) _ hw); have HV8 := Aside0.mk (R_stay HV7.out (show w.heap.size + 1 + 1 + 1 < w.heap.size + 1 + 1 + 1 + 1 by omega) _ hw); clear hw z0 z1 z2 z3 y0 y1 y2 y3; obtain ⟨z0, z1, z2, z3, y0, y1, y2, y3⟩ := M8.out.cells))
        obtain ⟨kq, hkq⟩ : ∃ x, pk l (j + 1) 513 = x := ⟨_, rfl⟩
        have ikq := hkq ▸ pk_in l (j + 1) (n := 513) (by omega)
        have wq : wrap64 (kq - 1) = kq - 1 := by unfold wrap64; omega
        have wq2 : IntKind.i64.wrap (kq - 1) = kq - 1 := by
          have h0 := wq
          unfold wrap64 at h0
          simp only [IntKind.wrap_i64]
          exact h0
        rw [hkq] at HM
        have HKQ := Aside0.mk hkq
        clear hkq
        have hl2 : (vs ++ [kq - 1]).length = vs.length + 1 := by simp
        go_region_law (first
          | (go_simp; go_at_call 47; refine (CA.out _ _ _ _ (j + 1) w8.drew (MS.drew M8.out) (by omega) 513 (by omega) (by omega)).mono ?_; rintro e w9 ⟨rfl, hw⟩; rw [HKQ.out]; have M9 := Aside0.mk (hw ▸ (MS.drew M8.out).pick); have HK9 := Aside0.mk (R_stay (Kd.R_drew HK8.out) (show w.heap.size + 1 + 1 + 1 < w.heap.size + 1 + 1 + 1 + 1 by omega) _ hw); have HV9 := Aside0.mk (R_stay (Kd.R_drew HV8.out) (show w.heap.size + 1 + 1 + 1 < w.heap.size + 1 + 1 + 1 + 1 by omega) _ hw); clear hw; have z3b := z3; obtain ⟨z0, z1, z2, z3, y0, y1, y2, y3⟩ := M9.out.cells; have z4 := fun o => ((M9.out.alloc o).cells).2.2.2.1)
          | (refine else_E (by rfl) (Kd.R_append_step (Kd.int .i64) (w0 := w9) (w.heap.size + 1 + 1 + 1 + 1) (by rfl) (.tmp 47) (.tmp 51) 22 3 (.int .i64 0) 8 rfl Try.underlying22 info_int rfl (by decide) (by omega) (.slice Av vs.length cv) vs (kq - 1) [.int .i64 (kq - 1)] (fun k => True ∧ some k ≠ (Value.slice A6 (ks.length + 1) c6).ownBlock) (fun _ => False) rfl rfl ?aP (fun _ hk => hk.elim) ?aF ?aO ?aB ?aS ?aL ?_); (case aP => exact rfl); (case aB => exact Below.refl _ _); (case aF => exact (fun k hk => ⟨trivial, fun e => by have := Kd.R_lt HK9.out k e.symm; omega⟩)); (case aO => exact HV9.out); (case aS => exact blk_lt M9.out.hA); (case aL => omega); intro v2 w10 ho hb hg hat; obtain ⟨A10, c10, hv2⟩ := Kd.R_slice ho; rw [hl2] at hv2; subst hv2; have M10 := Aside0.mk (M9.out.grown hg (fun k e => by have := Kd.R_base HV9.out k e; omega)); have HK10 := Aside0.mk (Kd.R_after HK9.out hg hat); have HV10 := Aside0.mk ho; clear ho hb hg hat z0 z1 z2 z3 y0 y1 y2 y3; obtain ⟨z0, z1, z2, z3, y0, y1, y2, y3⟩ := M10.out.cells))
        all_goals
          go_wp2
          exact ⟨⟨n, j + 2, kv + 1 + kp, ks ++ [kv], vs ++ [kq - 1], .slice A6 (ks.length + 1) c6, .slice A10 (vs.length + 1) c10, rfl, rfl, by omega, by omega, by omega, by omega, by omega, HM, ⟨M10.out.set3 _⟩, ⟨R_stay HK10.out (show w.heap.size + 1 + 1 < w.heap.size + 1 + 1 + 1 + 1 by omega) _ rfl⟩, ⟨R_stay HV10.out (show w.heap.size + 1 + 1 < w.heap.size + 1 + 1 + 1 + 1 by omega) _ rfl⟩⟩, by simp [intOf]⟩
end Go.Proofs.Ytfolonajajideaa.X
