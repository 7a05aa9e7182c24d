/- The walk of the statements' command by numbers: the whole function. -/
import Derived.Test.YtcahhknehmhlaaaModelMade
namespace Go.Proofs.Ytcahhknehmhlaaa.X
open Go.RowKit Go.Proofs.YtcahhknehmhlaaaW.PrintWords Go.Proofs.YtcahhknehmhlaaaW.PrintLast Go.Proofs.YtcahhknehmhlaaaW.PrintMore
theorem info_str : (Try.prog.info? 9).map (fun i => (i.zero, i.size, i.bytes)) = some (some (.string ⟨#[]⟩), 1, 16) := by kernel_rfl
set_option maxHeartbeats 8000000 in
set_option maxRecDepth 100000 in
theorem made_any (A : Option Addr) (c : Nat) (l : List Int) (hl : ∀ x ∈ l, 0 ≤ x ∧ x ≤ 255) (w : World) (hr : ReadsOf (Value.int .u8) (0 : Int) w A l.length l) (hA : 0 < l.length → ∀ ad, A = some ad → ad.block < w.heap.size) :
    Calls Try.prog 16 #[.slice A l.length c] w fun e w' => ∃ v_ : Value, e = .returned (.agg #[.int .i64 (madeV l).1, .int .i64 (madeV l).2.1, .int .i64 (madeV l).2.2.1, v_]) ∧ Kd.R Kd.string 9 w' w.heap.size (fun _ => True) v_ (madeV l).2.2.2 ∧ Below w.heap.size w w' := by
  have hmf : ∀ (fn : Fn) (first cap : Array Value) (w : World), (Instr.makeFunc fn first cap).run Try.prog w = .ok (.func fn first cap) w := fun _ _ _ _ => rfl
  obtain ⟨kL, kO, kR, kA⟩ := fourObj w (.cells #[.slice A l.length c] 34) (.cells #[.int .i64 0, .int .i64 0, .int .i64 0, .slice none 0 0] 24) (.cells #[.int .i64 0, .int .i64 0, .int .i64 0, .slice none 0 0] 24) (.cells #[.int .i64 0] 3)
  have M0 := Aside0.mk (show MS w A c l 0 0 0 (.slice none 0 0) 0 _ from ⟨kL, kO, kR, kA, ((((Below.refl w.heap.size w).alloc (Nat.le_refl _) _).alloc (by simp) _).alloc (by simp; omega) _).alloc (by simp; omega) _⟩)
  have CA := Aside0.mk (fun (kind fi cnt : Int) (vd : Value) (j : Nat) (W : World) (h : MS w A c l kind fi cnt vd j W) (hj : j ≤ 1000) (n : Int) (hn : 0 < n) (hn2 : n ≤ 100000) => h.call hl hj hr hA n hn hn2)
  clear kL kO kR kA
  obtain ⟨p0, hp0⟩ : ∃ x, pk l 0 10 = x := ⟨_, rfl⟩
  obtain ⟨p1, hp1⟩ : ∃ x, pk l 1 14 = x := ⟨_, rfl⟩
  obtain ⟨p2, hp2⟩ : ∃ x, pk l 2 6 = x := ⟨_, rfl⟩
  obtain ⟨p3, hp3⟩ : ∃ x, pk l 3 5 = x := ⟨_, rfl⟩
  have i0 := hp0 ▸ pk_in l 0 (n := 10) (by omega)
  have i1 := hp1 ▸ pk_in l 1 (n := 14) (by omega)
  have i2 := hp2 ▸ pk_in l 2 (n := 6) (by omega)
  have i3 := hp3 ▸ pk_in l 3 (n := 5) (by omega)
  obtain ⟨r4, hr4⟩ : ∃ x, (madeV l).2.2.2 = x := ⟨_, rfl⟩
  have hm : madeD l p3.toNat 4 [] = r4 := by
    rw [← hr4]
    unfold madeV
    rw [hp3]
  obtain ⟨ys, hys⟩ : ∃ y : List Int, y = [2, 2, 2, 3, 1, 4, 2, 3, 0, 5] := ⟨_, rfl⟩
  have hyl : ys.length = 10 := by rw [hys]; rfl
  have hk : (madeV l).1 = rd ys p0 := by unfold madeV; rw [hp0, hys]
  have hs : (madeV l).2.1 = p1 - 1 := by unfold madeV; rw [hp1]
  have hs2 : (madeV l).2.2.1 = p2 := by unfold madeV; rw [hp2]
  rw [hk, hs, hs2, hr4]
  clear hk hs hs2 hr4
  have HM := Aside0.mk hm
  have HY := Aside0.mk hys
  clear hm hys hr hA
  obtain ⟨kd, hkd⟩ : ∃ x, rd ys p0 = x := ⟨_, rfl⟩
  rw [hkd]
  have HKD := Aside0.mk hkd
  clear hkd
  have w1 : wrap64 (p1 - 1) = p1 - 1 := by unfold wrap64; omega
  have HP0 := Aside0.mk hp0
  have HP1 := Aside0.mk hp1
  have HP2 := Aside0.mk hp2
  have HP3 := Aside0.mk hp3
  clear hp0 hp1 hp2 hp3
  have HYL := Aside0.mk hyl
  have q0 : p0 < (ys.length : Int) := by omega
  have q1 : 0 ≤ p0 := by omega
  have Q0 := Aside0.mk q0
  clear q0 q1 hyl
  have ga0_ := Aside0.mk True.intro
  have ga1_ := Aside0.mk True.intro
  have ga2_ := Aside0.mk True.intro
  have ga3_ := Aside0.mk True.intro
  have ga4_ := Aside0.mk True.intro
  go_enter Try.func16, Try.ntmps16
  go_wp2_with (first
    | ((with_reducible refine gate_dst (N := 8) rfl ?_); have g_ := ga0_; clear g_ ga0_; refine Kd.R_lit (Kd.int .i64) (w.heap.size + 1 + 1 + 1 + 1) 3 ?hg (N := 8) ?hd (xs := ([2, 2, 2, 3, 1, 4, 2, 3, 0, 5] : List Int)) (inner := [.int .i64 2, .int .i64 2, .int .i64 2, .int .i64 3, .int .i64 1, .int .i64 4, .int .i64 2, .int .i64 3, .int .i64 0, .int .i64 5]) (ok := fun _ => True) (okp := fun _ => True) ?hr ?hp (fun _ hk => hk) trivial (Below.refl _ _) (blk_lt M0.out.hA) (by simp) ?_; (case hd => rfl); (case hg => rfl); (case hr => first | (go_simp; done) | (go_simp; rfl)); (case hp => exact (Reps.one (show Kd.M (Kd.int .i64) _ _ _ (2 : Int) [.int .i64 2] from rfl) (Reps.one (show Kd.M (Kd.int .i64) _ _ _ (2 : Int) [.int .i64 2] from rfl) (Reps.one (show Kd.M (Kd.int .i64) _ _ _ (2 : Int) [.int .i64 2] from rfl) (Reps.one (show Kd.M (Kd.int .i64) _ _ _ (3 : Int) [.int .i64 3] from rfl) (Reps.one (show Kd.M (Kd.int .i64) _ _ _ (1 : Int) [.int .i64 1] from rfl) (Reps.one (show Kd.M (Kd.int .i64) _ _ _ (4 : Int) [.int .i64 4] from rfl) (Reps.one (show Kd.M (Kd.int .i64) _ _ _ (2 : Int) [.int .i64 2] from rfl) (Reps.one (show Kd.M (Kd.int .i64) _ _ _ (3 : Int) [.int .i64 3] from rfl) (Reps.one (show Kd.M (Kd.int .i64) _ _ _ (0 : Int) [.int .i64 0] from rfl) (Reps.one (show Kd.M (Kd.int .i64) _ _ _ (5 : Int) [.int .i64 5] from rfl) (Reps.none _ _)))))))))))); intro v8 w0 ho hb hg hnew; have M1 := Aside0.mk (M0.out.grown hg (fun k e => by cases e)); rw [← HY.out] at ho; have HO := Aside0.mk ho; clear ho hb hg hnew; obtain ⟨A8, c8, e8⟩ := Kd.R_slice HO.out; subst e8)
    | (go_at_call 24; have g_ := ga1_; clear g_ ga1_; refine (CA.out _ _ _ _ 0 _ M1.out (by omega) 10 (by omega) (by omega)).mono ?_; rintro e w2 ⟨rfl, hw⟩; rw [HP0.out]; have M2 := Aside0.mk (hw ▸ M1.out.pick); have HO2 := Aside0.mk (R_stayK HO.out (show w.heap.size + 1 + 1 + 1 < w.heap.size + 1 + 1 + 1 + 1 by omega) _ hw); clear hw; obtain ⟨z0, z1, z2, z3, y0, y1, y2, y3⟩ := M2.out.cells; have p8 : 0 ≤ p0 := i0.1; have q8 : p0 < (ys.length : Int) := Q0.out; obtain ⟨ad8, e8, hx8⟩ := Kd.at_int (Kd.R_reads' HO2.out).2.2 p0 p8 q8; cases e8; rw [HKD.out] at hx8; replace p8 := eq_true p8; replace q8 := eq_true q8)
    | (go_at_call 24; have g_ := ga2_; clear g_ ga2_; refine (CA.out _ _ _ _ 1 _ (M2.out.set0 _) (by omega) 14 (by omega) (by omega)).mono ?_; rintro e w3 ⟨rfl, hw⟩; rw [HP1.out]; have M3 := Aside0.mk (hw ▸ (M2.out.set0 _).pick); clear hw z0 z1 z2 z3 y0 y1 y2 y3; obtain ⟨z0, z1, z2, z3, y0, y1, y2, y3⟩ := M3.out.cells)
    | (go_at_call 24; have g_ := ga3_; clear g_ ga3_; refine (CA.out _ _ _ _ 2 _ (M3.out.set1 _) (by omega) 6 (by omega) (by omega)).mono ?_; rintro e w4 ⟨rfl, hw⟩; rw [HP2.out]; have M4 := Aside0.mk (hw ▸ (M3.out.set1 _).pick); clear hw z0 z1 z2 z3 y0 y1 y2 y3; obtain ⟨z0, z1, z2, z3, y0, y1, y2, y3⟩ := M4.out.cells)
    | (go_at_call 24; have g_ := ga4_; clear g_ ga4_; refine (CA.out _ _ _ _ 3 _ (M4.out.set2 _) (by omega) 5 (by omega) (by omega)).mono ?_; rintro e w5 ⟨rfl, hw⟩; rw [HP3.out]; have M5 := Aside0.mk (hw ▸ (M4.out.set2 _).pick); clear hw z0 z1 z2 z3 y0 y1 y2 y3))

  go_loopw [6] (fun i wr => ∃ (n j : Nat) (ds : List ByteArray) (vd : Value), i = .int .i64 (n : Int) ∧ ds.length + n ≤ 8 ∧ j + n ≤ 30 ∧
      Aside0 (madeD l n j ds = r4) ∧ Aside0 (MS w A c l kd (p1 - 1) p2 vd j wr) ∧
      Aside0 (Kd.R Kd.string 9 wr (w.heap.size + 1 + 1 + 1 + 1) (fun _ => True) vd ds))
    (fun i _ => (intOf i).toNat)
  case atStart => exact ⟨p3.toNat, 4, [], _, by congr 1; omega, by simp; omega, by omega, HM, M5, ⟨Kd.R_nil _ _ _ _ _⟩⟩
  case round =>
    clear M0 M1 M2 M3 M4 M5 HM HO HO2
    obtain ⟨n, j, ds, vd, rfl, hds, hj, HM, MM, HD⟩ := hrel
    obtain ⟨Ad, cd, rfl⟩ := Kd.R_slice HD.out
    by_cases hgo : 0 < (n : Int)
    case neg =>
      have hend : madeD l n j ds = ds := by
        match n, hgo with
        | 0, _ => rfl
        | n + 1, hgo => exact absurd (by omega) hgo
      obtain rfl : ds = r4 := hend.symm.trans HM.out
      clear hend HM
      obtain ⟨z0, z1, z2, z3, y0, y1, y2, y3⟩ := MM.out.cells
      have x0 := (blk_cell MM.out.hO 0).trans rfl
      have x1 := (blk_cell MM.out.hO 1).trans rfl
      have x2 := (blk_cell MM.out.hO 2).trans rfl
      have x3 := (blk_cell MM.out.hO 3).trans rfl
      have v0 := blk_frozen MM.out.hO 0
      have v1 := blk_frozen MM.out.hO 1
      have v2 := blk_frozen MM.out.hO 2
      have v3 := blk_frozen MM.out.hO 3
      have q := set4x (.int .i64 kd) (.int .i64 (p1 - 1)) (.int .i64 p2) (.slice Ad ds.length cd) MM.out.hO
      have q0 := (blk_cell q 0).trans rfl
      have q1 := (blk_cell q 1).trans rfl
      have q2 := (blk_cell q 2).trans rfl
      have q3 := (blk_cell q 3).trans rfl
      have RD := Aside0.mk (Kd.R_lower (R_stay4K HD.out (p := w.heap.size + 1) (by omega) (.int .i64 kd) (.int .i64 (p1 - 1)) (.int .i64 p2) (.slice Ad ds.length cd)) (show w.heap.size ≤ w.heap.size + 1 + 1 + 1 + 1 by omega))
      have B9 := Aside0.mk ((((MM.out.hB.setCell (p := ⟨w.heap.size + 1, 0, none⟩) (show w.heap.size ≤ w.heap.size + 1 by omega) (.int .i64 kd)).setCell (p := ⟨w.heap.size + 1, 1, none⟩) (show w.heap.size ≤ w.heap.size + 1 by omega) (.int .i64 (p1 - 1))).setCell (p := ⟨w.heap.size + 1, 2, none⟩) (show w.heap.size ≤ w.heap.size + 1 by omega) (.int .i64 p2)).setCell (p := ⟨w.heap.size + 1, 3, none⟩) (show w.heap.size ≤ w.heap.size + 1 by omega) (.slice Ad ds.length cd))
      clear q
      go_wp2
      refine bodyPost_ret (v := .agg #[.int .i64 kd, .int .i64 (p1 - 1), .int .i64 p2, .slice Ad ds.length cd]) (by simp [results, Try.results16, go_sem, q0, q1, q2, q3]) rfl ⟨_, rfl, RD.out, B9.out⟩
    case pos =>
      obtain ⟨n, rfl⟩ : ∃ m, n = m + 1 := ⟨n - 1, by omega⟩
      obtain ⟨kp, hkp⟩ : ∃ x, pk l j 50 = x := ⟨_, rfl⟩
      have ikp := hkp ▸ pk_in l j (n := 50) (by omega)
      have e1 : wrap64 (((n + 1 : Nat) : Int) - 1) = (n : Int) := by unfold wrap64; omega
      have hst : madeD l (n + 1) j ds = madeD l n (j + 1) (ds ++ [few (Int.tdiv kp 6)]) := by
        rw [madeD, hkp]
      rw [hst] at HM
      have HKP := Aside0.mk hkp
      clear hst hkp
      obtain ⟨kx, hkx⟩ : ∃ x, Int.tdiv kp 6 = x := ⟨_, rfl⟩
      rw [hkx] at HM
      have ikx : 0 ≤ kx ∧ kx ≤ 8 := by
        rw [← hkx, Int.tdiv_eq_ediv_of_nonneg ikp.1]
        omega
      have wx : wrap64 kx = kx := by unfold wrap64; omega
      have wx2 : IntKind.i64.wrap kx = kx := by
        have h0 := wx
        unfold wrap64 at h0
        simp only [IntKind.wrap_i64]
        exact h0
      obtain ⟨z0, z1, z2, z3, y0, y1, y2, y3⟩ := MM.out.cells
      have hl1 : (ds ++ [few kx]).length = ds.length + 1 := by simp
      go_wp2
      go_region_law (first
        | (go_simp; go_at_call 24; refine (CA.out _ _ _ _ j wr.drew (MS.drew MM.out) (by omega) 50 (by omega) (by omega)).mono ?_; rintro e w9 ⟨rfl, hw⟩; rw [HKP.out]; have M9 := Aside0.mk (hw ▸ (MS.drew MM.out).pick); have HD9 := Aside0.mk (R_stayK (Kd.R_drew HD.out) (show w.heap.size + 1 + 1 + 1 < w.heap.size + 1 + 1 + 1 + 1 by omega) _ hw); clear hw; have z3b := z3; obtain ⟨z0, z1, z2, z3, y0, y1, y2, y3⟩ := M9.out.cells)
        | (go_simp; go_at_call 20; refine (few_any _ ikx.1 _).mono ?_; rintro e w10 ⟨rfl, hb⟩; have M10 := Aside0.mk (M9.out.below hb); have HD10 := Aside0.mk (Kd.R_below HD9.out hb); clear hb; obtain ⟨z0, z1, z2, z3, y0, y1, y2, y3⟩ := M10.out.cells; have z4 := fun o => ((M10.out.alloc o).cells).2.2.2.1)
        | (refine else_E (by rfl) (Kd.R_append_step Kd.string (w0 := w10) (w.heap.size + 1 + 1 + 1 + 1) (by rfl) (.tmp 28) (.tmp 33) 22 9 (.string ⟨#[]⟩) 16 rfl Try.underlying22 info_str rfl (by decide) (by omega) (.slice Ad ds.length cd) ds (few kx) [.string (few kx)] (fun _ => True) (fun _ => False) rfl rfl ?aP (fun _ hk => hk.elim) ?aF ?aO ?aB ?aS ?aL ?_); (case aP => exact rfl); (case aB => exact Below.refl _ _); (case aF => exact (fun _ _ => trivial)); (case aO => exact HD10.out); (case aS => exact blk_lt M10.out.hA); (case aL => omega); intro v2 w11 ho hb hg hat; obtain ⟨A11, c11, hv2⟩ := Kd.R_slice ho; rw [hl1] at hv2; subst hv2; have M11 := Aside0.mk (M10.out.grown hg (fun k e => by have := Kd.R_base HD10.out k e; omega)); have HD11 := Aside0.mk ho; clear ho hb hg hat z0 z1 z2 z3 y0 y1 y2 y3; obtain ⟨z0, z1, z2, z3, y0, y1, y2, y3⟩ := M11.out.cells))
      all_goals
        go_wp2
        exact ⟨⟨n, j + 1, ds ++ [few kx], .slice A11 (ds.length + 1) c11, rfl, by omega, by omega, HM, ⟨M11.out.set3 _⟩, ⟨R_stayK HD11.out (show w.heap.size + 1 + 1 < w.heap.size + 1 + 1 + 1 + 1 by omega) _ rfl⟩⟩, by simp [intOf]⟩
end Go.Proofs.Ytcahhknehmhlaaa.X
