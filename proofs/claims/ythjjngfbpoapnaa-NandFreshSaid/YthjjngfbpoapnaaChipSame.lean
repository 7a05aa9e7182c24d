/- The document's Same, of two chips that are the same. -/
import Derived.Test.YthjjngfbpoapnaaChipRNew
import Derived.Deep.RegionHeld3
namespace Go.Proofs.Ythjjngfbpoapnaa.X
open Go.RowKit Go.Proofs.Ythjjngfbpoapnaa.PAll Go.Proofs.YthjjngfbpoapnaaW.PrintWords Go.Proofs.YthjjngfbpoapnaaW.PrintLast Go.Proofs.YthjjngfbpoapnaaW.PrintMore
set_option linter.unusedVariables false
set_option linter.unusedSimpArgs false
theorem eqPg (d : Nat) (w : World) (x0 y0 : Bool) (x1 y1 : ByteArray) (x2 y2 : ByteArray) :
    (Op.equalIn (d + 2) 46 (.agg #[.bool x0, .string x1, .string x2]) (.agg #[.bool y0, .string y1, .string y2])).run Try.prog w = .ok (x0 == y0 && (x1.toList == y1.toList && (x2.toList == y2.toList))) w := by
  refine eqA_of Try.underlying46 (by kernel_rfl) ?_
  refine eqf_cons (by rfl) (by go_simp; rfl) (by go_simp; rfl) (by go_simp) ?_
  refine eqf_cons (by rfl) (by go_simp; rfl) (by go_simp; rfl) (by go_simp) ?_
  exact eqf_last (by rfl) (by go_simp; rfl) (by go_simp; rfl) (by go_simp)
attribute [local go_sem high] eqPg
set_option maxHeartbeats 4000000 in
set_option maxRecDepth 100000 in
theorem same_any (A : Option Addr) (c : Nat) (A' : Option Addr) (c' : Nat) (l : List Blk) (br off : Bool) (ops : Int) (w : World) (hC : Kd.C kB w A l.length l) (hC' : Kd.C kB w A' l.length l) :
    Calls Try.prog 14 #[.agg #[.slice A l.length c, .bool br, .bool off, .int .i64 ops], .agg #[.slice A' l.length c', .bool br, .bool off, .int .i64 ops]] w fun e w' => e = .returned (.bool true) ∧ Below w.heap.size w w' := by
  have HC := Aside0.mk hC
  have HC' := Aside0.mk hC'
  have hlm : l.length ≤ 9223372036854775807 := hC.2.1
  clear hC hC'
  go_enter Try.func14, Try.ntmps14
  go_upto_region 3 with (fail)
  have ho : ((w.alloc (.cells #[.slice A l.length c, .bool br, .bool off, .int .i64 ops] 27)).alloc (.cells #[.slice A' l.length c', .bool br, .bool off, .int .i64 ops] 27)).heap[w.heap.size]? = some (.cells #[.slice A l.length c, .bool br, .bool off, .int .i64 ops] 27 (0, 0)) := blk_alloc (alloc_at _ _) _
  have hq : ((w.alloc (.cells #[.slice A l.length c, .bool br, .bool off, .int .i64 ops] 27)).alloc (.cells #[.slice A' l.length c', .bool br, .bool off, .int .i64 ops] 27)).heap[w.heap.size + 1]? = some (.cells #[.slice A' l.length c', .bool br, .bool off, .int .i64 ops] 27 (0, 0)) := by
    have := alloc_at (w.alloc (.cells #[.slice A l.length c, .bool br, .bool off, .int .i64 ops] 27)) (.cells #[.slice A' l.length c', .bool br, .bool off, .int .i64 ops] 27)
    simpa using this
  have hb : Below w.heap.size w ((w.alloc (.cells #[.slice A l.length c, .bool br, .bool off, .int .i64 ops] 27)).alloc (.cells #[.slice A' l.length c', .bool br, .bool off, .int .i64 ops] 27)) := ((Below.refl _ w).alloc (Nat.le_refl _) _).alloc (by simp) _
  have hz : w.heap.size + 2 ≤ ((w.alloc (.cells #[.slice A l.length c, .bool br, .bool off, .int .i64 ops] 27)).alloc (.cells #[.slice A' l.length c', .bool br, .bool off, .int .i64 ops] 27)).heap.size := by simp
  generalize (w.alloc (.cells #[.slice A l.length c, .bool br, .bool off, .int .i64 ops] 27)).alloc (.cells #[.slice A' l.length c', .bool br, .bool off, .int .i64 ops] 27) = W1 at ho hq hb hz ⊢
  have HB := Aside0.mk hb
  have HO := Aside0.mk ho
  have HQ := Aside0.mk hq
  have HZ := Aside0.mk hz
  clear hb ho hq hz
  go_wp2
  go_loopw [5] (fun i wr => ∃ k : Nat, k ≤ l.length ∧ i = .int .i64 k ∧ Aside0 (Below w.heap.size w wr) ∧ Aside0 (wr.heap[w.heap.size]? = some (.cells #[.slice A l.length c, .bool br, .bool off, .int .i64 ops] 27 (0, 0))) ∧ Aside0 (wr.heap[w.heap.size + 1]? = some (.cells #[.slice A' l.length c', .bool br, .bool off, .int .i64 ops] 27 (0, 0))) ∧ Aside0 (w.heap.size + 2 ≤ wr.heap.size))
    (fun i _ => l.length - (intOf i).toNat)
  case atStart => exact ⟨0, Nat.zero_le _, rfl, HB, HO, HQ, HZ⟩
  case round =>
    clear HB HO HQ HZ
    obtain ⟨k, hk, rfl, HB, HO, HQ, HZ⟩ := hrel
    have ho := HO.out
    have hq := HQ.out
    obtain ⟨zo0, zo1, zo2, zo3, yo0, yo1, yo2, yo3⟩ := blk4 ho
    obtain ⟨zq0, zq1, zq2, zq3, yq0, yq1, yq2, yq3⟩ := blk4 hq
    clear ho hq
    by_cases hlt : k < l.length
    · have hkl : (k : Int) < (l.length : Int) := by omega
      obtain ⟨ad, A0, c0, rfl, z20, z21, z22, z23, hc0, hP⟩ := at_T44 (Kd.C_below HC.out HB.out) (k : Int) (by omega) hkl
      obtain ⟨ad', A1, c1, rfl, z30, z31, z32, z33, hc1, hP'⟩ := at_T44 (Kd.C_below HC'.out HB.out) (k : Int) (by omega) hkl
      obtain ⟨x, hx⟩ : ∃ x, rd_T44 l (k : Int) = x := ⟨_, rfl⟩
      rw [hx] at z20 z21 z22 z23 hc0 hP z30 z31 z32 z33 hc1 hP'
      simp only [Int.toNat_natCast] at z20 z21 z22 z23 z30 z31 z32 z33
      have HP := Aside0.mk hP
      have HP' := Aside0.mk hP'
      have hpm : x.f0.length ≤ 9223372036854775807 := hP.2.1
      clear hP hP' hx
      go_upto_region 6 with (fail)
      go_region_held3 (fun W => W.cell? ⟨w.heap.size, 0, none⟩ = some (.slice (some ad) l.length c) ∧ W.cell? ⟨w.heap.size + 1, 0, none⟩ = some (.slice (some ad') l.length c') ∧ W.cell? (ad.add (k * 4)) = some (.slice A0 x.f0.length c0) ∧ W.cell? ⟨(ad.add (k * 4)).block, (ad.add (k * 4)).off + 1, none⟩ = some (.int .i64 x.f1) ∧ W.cell? ⟨(ad.add (k * 4)).block, (ad.add (k * 4)).off + 2, none⟩ = some (.int .i64 x.f2) ∧ W.cell? ⟨(ad.add (k * 4)).block, (ad.add (k * 4)).off + 3, none⟩ = some (.bool x.f3) ∧ W.cell? (ad'.add (k * 4)) = some (.slice A1 x.f0.length c1) ∧ W.cell? ⟨(ad'.add (k * 4)).block, (ad'.add (k * 4)).off + 1, none⟩ = some (.int .i64 x.f1) ∧ W.cell? ⟨(ad'.add (k * 4)).block, (ad'.add (k * 4)).off + 2, none⟩ = some (.int .i64 x.f2) ∧ W.cell? ⟨(ad'.add (k * 4)).block, (ad'.add (k * 4)).off + 3, none⟩ = some (.bool x.f3))
        (((try dsimp only); exact ⟨pw_cell_below (w := wr) (by repeat (first | exact Below.refl _ _ | apply below_drew1 | apply pw_below_drewN | (refine Below.alloc ?_ (by first | exact Nat.le_refl _ | (simp; done) | (simp; omega)) _) | (refine Below.setCell ?_ (by first | exact Nat.le_refl _ | (simp; done) | (simp; omega)) _))) zo0, pw_cell_below (w := wr) (by repeat (first | exact Below.refl _ _ | apply below_drew1 | apply pw_below_drewN | (refine Below.alloc ?_ (by first | exact Nat.le_refl _ | (simp; done) | (simp; omega)) _) | (refine Below.setCell ?_ (by first | exact Nat.le_refl _ | (simp; done) | (simp; omega)) _))) zq0, pw_cell_below (w := wr) (by repeat (first | exact Below.refl _ _ | apply below_drew1 | apply pw_below_drewN | (refine Below.alloc ?_ (by first | exact Nat.le_refl _ | (simp; done) | (simp; omega)) _) | (refine Below.setCell ?_ (by first | exact Nat.le_refl _ | (simp; done) | (simp; omega)) _))) z20, pw_cell_below (w := wr) (by repeat (first | exact Below.refl _ _ | apply below_drew1 | apply pw_below_drewN | (refine Below.alloc ?_ (by first | exact Nat.le_refl _ | (simp; done) | (simp; omega)) _) | (refine Below.setCell ?_ (by first | exact Nat.le_refl _ | (simp; done) | (simp; omega)) _))) z21, pw_cell_below (w := wr) (by repeat (first | exact Below.refl _ _ | apply below_drew1 | apply pw_below_drewN | (refine Below.alloc ?_ (by first | exact Nat.le_refl _ | (simp; done) | (simp; omega)) _) | (refine Below.setCell ?_ (by first | exact Nat.le_refl _ | (simp; done) | (simp; omega)) _))) z22, pw_cell_below (w := wr) (by repeat (first | exact Below.refl _ _ | apply below_drew1 | apply pw_below_drewN | (refine Below.alloc ?_ (by first | exact Nat.le_refl _ | (simp; done) | (simp; omega)) _) | (refine Below.setCell ?_ (by first | exact Nat.le_refl _ | (simp; done) | (simp; omega)) _))) z23, pw_cell_below (w := wr) (by repeat (first | exact Below.refl _ _ | apply below_drew1 | apply pw_below_drewN | (refine Below.alloc ?_ (by first | exact Nat.le_refl _ | (simp; done) | (simp; omega)) _) | (refine Below.setCell ?_ (by first | exact Nat.le_refl _ | (simp; done) | (simp; omega)) _))) z30, pw_cell_below (w := wr) (by repeat (first | exact Below.refl _ _ | apply below_drew1 | apply pw_below_drewN | (refine Below.alloc ?_ (by first | exact Nat.le_refl _ | (simp; done) | (simp; omega)) _) | (refine Below.setCell ?_ (by first | exact Nat.le_refl _ | (simp; done) | (simp; omega)) _))) z31, pw_cell_below (w := wr) (by repeat (first | exact Below.refl _ _ | apply below_drew1 | apply pw_below_drewN | (refine Below.alloc ?_ (by first | exact Nat.le_refl _ | (simp; done) | (simp; omega)) _) | (refine Below.setCell ?_ (by first | exact Nat.le_refl _ | (simp; done) | (simp; omega)) _))) z32, pw_cell_below (w := wr) (by repeat (first | exact Below.refl _ _ | apply below_drew1 | apply pw_below_drewN | (refine Below.alloc ?_ (by first | exact Nat.le_refl _ | (simp; done) | (simp; omega)) _) | (refine Below.setCell ?_ (by first | exact Nat.le_refl _ | (simp; done) | (simp; omega)) _))) z33⟩))
        (fail)
      · have hx : (((wr.alloc (.cells #[.slice A0 x.f0.length c0, .int .i64 x.f1, .int .i64 x.f2, .bool x.f3] 44)).alloc (.cells #[.slice A1 x.f0.length c1, .int .i64 x.f1, .int .i64 x.f2, .bool x.f3] 44)).drew).heap[wr.heap.size]? = some (.cells #[.slice A0 x.f0.length c0, .int .i64 x.f1, .int .i64 x.f2, .bool x.f3] 44 (0, 0)) := (blk_drew (blk_alloc (alloc_at _ _) _))
        have hy : (((wr.alloc (.cells #[.slice A0 x.f0.length c0, .int .i64 x.f1, .int .i64 x.f2, .bool x.f3] 44)).alloc (.cells #[.slice A1 x.f0.length c1, .int .i64 x.f1, .int .i64 x.f2, .bool x.f3] 44)).drew).heap[wr.heap.size + 1]? = some (.cells #[.slice A1 x.f0.length c1, .int .i64 x.f1, .int .i64 x.f2, .bool x.f3] 44 (0, 0)) := (blk_drew (by have := alloc_at (wr.alloc (.cells #[.slice A0 x.f0.length c0, .int .i64 x.f1, .int .i64 x.f2, .bool x.f3] 44)) (.cells #[.slice A1 x.f0.length c1, .int .i64 x.f1, .int .i64 x.f2, .bool x.f3] 44); simpa using this))
        have hb : Below wr.heap.size wr (((wr.alloc (.cells #[.slice A0 x.f0.length c0, .int .i64 x.f1, .int .i64 x.f2, .bool x.f3] 44)).alloc (.cells #[.slice A1 x.f0.length c1, .int .i64 x.f1, .int .i64 x.f2, .bool x.f3] 44)).drew) := (below_drew (below_alloc (below_alloc (Below.refl _ _) _) _))
        generalize ((wr.alloc (.cells #[.slice A0 x.f0.length c0, .int .i64 x.f1, .int .i64 x.f2, .bool x.f3] 44)).alloc (.cells #[.slice A1 x.f0.length c1, .int .i64 x.f1, .int .i64 x.f2, .bool x.f3] 44)).drew = W2 at hx hy hb ⊢
        have H0 := Aside0.mk hb.size
        have HB2 := Aside0.mk hb
        have HX := Aside0.mk hx
        have HY := Aside0.mk hy
        clear hb hx hy zo0 zo1 zo2 zo3 yo0 yo1 yo2 yo3 zq0 zq1 zq2 zq3 yq0 yq1 yq2 yq3 z20 z21 z22 z23 z30 z31 z32 z33
        generalize hn1 : wr.heap.size + 1 = by_ at HX HY ⊢
        generalize hn2 : wr.heap.size = bx at HX HY ⊢
        clear hn1 hn2
        have hx := HX.out
        have hy := HY.out
        obtain ⟨zx0, zx1, zx2, zx3, yx0, yx1, yx2, yx3⟩ := blk4 hx
        obtain ⟨zy0, zy1, zy2, zy3, yy0, yy1, yy2, yy3⟩ := blk4 hy
        clear hx hy
        go_upto_region 10 with (fail)
        go_wp2
        go_loopw [8] (fun j wv => ∃ m : Nat, m ≤ x.f0.length ∧ j = .int .i64 m ∧ Aside0 (Below W2.heap.size W2 wv))
          (fun j _ => x.f0.length - (intOf j).toNat)
        case atStart => exact ⟨0, Nat.zero_le _, rfl, ⟨Below.refl _ _⟩⟩
        case round =>
          obtain ⟨m, hm, rfl, HV⟩ := hrel
          have hx := (HV.out.block _ (blk_lt HX.out)).trans HX.out
          have hy := (HV.out.block _ (blk_lt HY.out)).trans HY.out
          clear zx0 zx1 zx2 zx3 yx0 yx1 yx2 yx3 zy0 zy1 zy2 zy3 yy0 yy1 yy2 yy3
          obtain ⟨zx0, zx1, zx2, zx3, yx0, yx1, yx2, yx3⟩ := blk4 hx
          obtain ⟨zy0, zy1, zy2, zy3, yy0, yy1, yy2, yy3⟩ := blk4 hy
          clear hx hy
          by_cases hmt : m < x.f0.length
          · have hml : (m : Int) < (x.f0.length : Int) := by omega
            obtain ⟨ad2, hA0, z40, z41, z42⟩ := at_T46 (Kd.C_below HP.out (below_step HB2.out HV.out)) (m : Int) (by omega) hml
            obtain ⟨ad3, hA1, z50, z51, z52⟩ := at_T46 (Kd.C_below HP'.out (below_step HB2.out HV.out)) (m : Int) (by omega) hml
            rw [hA0] at zx0
            rw [hA1] at zy0
            simp only [Int.toNat_natCast] at z40 z41 z42 z50 z51 z52
            clear hA0 hA1
            go_upto_region 12 with (fail)
            go_region
            all_goals
              go_wp2
              refine ⟨⟨m + 1, by omega, by go_num, ⟨below_drew HV.out⟩⟩, by simp [intOf]; omega⟩
          · go_wp2
            have hbv := below_step HB2.out HV.out
            refine ⟨⟨k + 1, by omega, by go_num, ⟨below_step HB.out hbv⟩, ⟨(hbv.block _ (blk_lt HO.out)).trans HO.out⟩, ⟨(hbv.block _ (blk_lt HQ.out)).trans HQ.out⟩, ⟨Nat.le_trans HZ.out hbv.size⟩⟩, by simp [intOf]; omega⟩
      · have hy : (((wr.alloc (.cells #[.slice A1 x.f0.length c1, .int .i64 x.f1, .int .i64 x.f2, .bool x.f3] 44)).alloc (.cells #[.slice A0 x.f0.length c0, .int .i64 x.f1, .int .i64 x.f2, .bool x.f3] 44)).drew).heap[wr.heap.size]? = some (.cells #[.slice A1 x.f0.length c1, .int .i64 x.f1, .int .i64 x.f2, .bool x.f3] 44 (0, 0)) := (blk_drew (blk_alloc (alloc_at _ _) _))
        have hx : (((wr.alloc (.cells #[.slice A1 x.f0.length c1, .int .i64 x.f1, .int .i64 x.f2, .bool x.f3] 44)).alloc (.cells #[.slice A0 x.f0.length c0, .int .i64 x.f1, .int .i64 x.f2, .bool x.f3] 44)).drew).heap[wr.heap.size + 1]? = some (.cells #[.slice A0 x.f0.length c0, .int .i64 x.f1, .int .i64 x.f2, .bool x.f3] 44 (0, 0)) := (blk_drew (by have := alloc_at (wr.alloc (.cells #[.slice A1 x.f0.length c1, .int .i64 x.f1, .int .i64 x.f2, .bool x.f3] 44)) (.cells #[.slice A0 x.f0.length c0, .int .i64 x.f1, .int .i64 x.f2, .bool x.f3] 44); simpa using this))
        have hb : Below wr.heap.size wr (((wr.alloc (.cells #[.slice A1 x.f0.length c1, .int .i64 x.f1, .int .i64 x.f2, .bool x.f3] 44)).alloc (.cells #[.slice A0 x.f0.length c0, .int .i64 x.f1, .int .i64 x.f2, .bool x.f3] 44)).drew) := (below_drew (below_alloc (below_alloc (Below.refl _ _) _) _))
        generalize ((wr.alloc (.cells #[.slice A1 x.f0.length c1, .int .i64 x.f1, .int .i64 x.f2, .bool x.f3] 44)).alloc (.cells #[.slice A0 x.f0.length c0, .int .i64 x.f1, .int .i64 x.f2, .bool x.f3] 44)).drew = W2 at hx hy hb ⊢
        have H0 := Aside0.mk hb.size
        have HB2 := Aside0.mk hb
        have HX := Aside0.mk hx
        have HY := Aside0.mk hy
        clear hb hx hy zo0 zo1 zo2 zo3 yo0 yo1 yo2 yo3 zq0 zq1 zq2 zq3 yq0 yq1 yq2 yq3 z20 z21 z22 z23 z30 z31 z32 z33
        generalize hn1 : wr.heap.size + 1 = bx at HX HY ⊢
        generalize hn2 : wr.heap.size = by_ at HX HY ⊢
        clear hn1 hn2
        have hx := HX.out
        have hy := HY.out
        obtain ⟨zx0, zx1, zx2, zx3, yx0, yx1, yx2, yx3⟩ := blk4 hx
        obtain ⟨zy0, zy1, zy2, zy3, yy0, yy1, yy2, yy3⟩ := blk4 hy
        clear hx hy
        go_upto_region 10 with (fail)
        go_wp2
        go_loopw [8] (fun j wv => ∃ m : Nat, m ≤ x.f0.length ∧ j = .int .i64 m ∧ Aside0 (Below W2.heap.size W2 wv))
          (fun j _ => x.f0.length - (intOf j).toNat)
        case atStart => exact ⟨0, Nat.zero_le _, rfl, ⟨Below.refl _ _⟩⟩
        case round =>
          obtain ⟨m, hm, rfl, HV⟩ := hrel
          have hx := (HV.out.block _ (blk_lt HX.out)).trans HX.out
          have hy := (HV.out.block _ (blk_lt HY.out)).trans HY.out
          clear zx0 zx1 zx2 zx3 yx0 yx1 yx2 yx3 zy0 zy1 zy2 zy3 yy0 yy1 yy2 yy3
          obtain ⟨zx0, zx1, zx2, zx3, yx0, yx1, yx2, yx3⟩ := blk4 hx
          obtain ⟨zy0, zy1, zy2, zy3, yy0, yy1, yy2, yy3⟩ := blk4 hy
          clear hx hy
          by_cases hmt : m < x.f0.length
          · have hml : (m : Int) < (x.f0.length : Int) := by omega
            obtain ⟨ad2, hA0, z40, z41, z42⟩ := at_T46 (Kd.C_below HP.out (below_step HB2.out HV.out)) (m : Int) (by omega) hml
            obtain ⟨ad3, hA1, z50, z51, z52⟩ := at_T46 (Kd.C_below HP'.out (below_step HB2.out HV.out)) (m : Int) (by omega) hml
            rw [hA0] at zx0
            rw [hA1] at zy0
            simp only [Int.toNat_natCast] at z40 z41 z42 z50 z51 z52
            clear hA0 hA1
            go_upto_region 12 with (fail)
            go_region
            all_goals
              go_wp2
              refine ⟨⟨m + 1, by omega, by go_num, ⟨below_drew HV.out⟩⟩, by simp [intOf]; omega⟩
          · go_wp2
            have hbv := below_step HB2.out HV.out
            refine ⟨⟨k + 1, by omega, by go_num, ⟨below_step HB.out hbv⟩, ⟨(hbv.block _ (blk_lt HO.out)).trans HO.out⟩, ⟨(hbv.block _ (blk_lt HQ.out)).trans HQ.out⟩, ⟨Nat.le_trans HZ.out hbv.size⟩⟩, by simp [intOf]; omega⟩
    · go_wp2
      go_ret
      exact ⟨rfl, HB.out⟩
end Go.Proofs.Ythjjngfbpoapnaa.X
