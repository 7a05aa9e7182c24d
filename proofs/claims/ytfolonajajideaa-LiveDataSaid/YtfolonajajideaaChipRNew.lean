/- The document's New. -/
import Derived.Test.YtfolonajajideaaChipNew
namespace Go.Proofs.Ytfolonajajideaa.X
open Go.RowKit Go.Proofs.Ytfolonajajideaa.PAll Go.Proofs.YtfolonajajideaaW.PrintWords Go.Proofs.YtfolonajajideaaW.PrintLast Go.Proofs.YtfolonajajideaaW.PrintMore
set_option linter.unusedVariables false
set_option linter.unusedSimpArgs false
theorem rowL_snoc (k : Nat) (ps : List Pg) : rowL k ps [] ++ [(⟨ps, 0, 0, false⟩ : Blk)] = rowL (k + 1) ps [] := by
  unfold rowL
  rw [List.range_succ, List.map_append]
  rfl
set_option maxHeartbeats 2000000 in
set_option maxRecDepth 100000 in
/-- .. refused at once. -/
theorem rnew_no (blocks pages : Int) (A : Option Addr) (c : Nat) (bad : List Int) (P : Nat → Prop) (w : World) (hno : blocks < 1 ∨ 32 < blocks ∨ pages < 1 ∨ 16 < pages) :
    Calls Try.prog 23 #[.int .i64 blocks, .int .i64 pages, .slice A bad.length c] w fun e w' => Out P w w' e ([], false, false, 0, 1) := by
  have hcase : blocks < 1 ∨ (1 ≤ blocks ∧ 32 < blocks) ∨ ((1 ≤ blocks ∧ blocks ≤ 32) ∧ (pages < 1 ∨ (1 ≤ pages ∧ 16 < pages))) := by omega
  clear hno
  rcases hcase with h | ⟨h, h'⟩ | ⟨⟨h0, h1⟩, h | ⟨h, h'⟩⟩
  all_goals
    go_enter Try.func23, Try.ntmps23
    go_wp2
    exact bodyPost_ret (results_ct rfl _ _ w.heap.size 32 #[.slice none 0 0, .bool false, .bool false, .int .i64 0] (0, 0) _ rfl (alloc_at _ _) Try.underlying32 rfl (by kernel_rfl)) rfl ⟨none, 0, rfl, Nat.le_refl _, Kd.F_nil _ _ _, (Below.refl _ w).alloc (Nat.le_refl _) _⟩
set_option maxHeartbeats 4000000 in
set_option maxRecDepth 100000 in
/-- .. begun. -/
theorem rnew_go (blocks pages : Int) (A : Option Addr) (c : Nat) (bad : List Int) (P : Nat → Prop) (w : World) (hR : ReadsOf (Value.int .i64) (0 : Int) w A bad.length bad) (h0 : 1 ≤ blocks) (h1 : blocks ≤ 32) (h2 : 1 ≤ pages) (h3 : pages ≤ 16) :
    Calls Try.prog 23 #[.int .i64 blocks, .int .i64 pages, .slice A bad.length c] w fun e w' =>
      Out P w w' e (if bad.any (oddB blocks) = true then ([], false, false, 0, 1) else (rowL blocks.toNat (List.replicate pages.toNat zP) bad, false, false, 0, 0)) := by
  have RD := Aside0.mk hR
  have hbm := hR.2.1
  obtain ⟨n, hn⟩ : ∃ n : Nat, blocks.toNat = n := ⟨_, rfl⟩
  obtain ⟨ps, hps⟩ : ∃ ps, List.replicate pages.toNat zP = ps := ⟨_, rfl⟩
  have hpl : ps.length ≤ 16 := by rw [← hps]; simp; omega
  obtain ⟨mc, hmk, hmR⟩ := make_pages pages (by omega) (by omega)
  have hmt : pages.toNat = ps.length := by rw [← hps]; simp
  rw [hps, hmt] at hmR
  have HMR := Aside0.mk hmR
  rw [hmt] at hmk
  have hn1 : 1 ≤ n := by omega
  have hn2 : n ≤ 32 := by omega
  obtain rfl : blocks = (n : Int) := by omega
  rw [hn, hps]
  obtain ⟨res, hres⟩ : ∃ res : List Blk × Bool × Bool × Int × Int, (if bad.any (oddB (n : Int)) = true then ([], false, false, 0, 1) else (rowL n ps bad, false, false, 0, 0)) = res := ⟨_, rfl⟩
  rw [hres]
  have HRES := Aside0.mk hres
  obtain ⟨base, hbase⟩ : ∃ base, w.heap.size + 2 = base := ⟨_, rfl⟩
  have HBASE := Aside0.mk hbase
  clear hR hn hps hmt hmR hres hbase
  go_enter Try.func23, Try.ntmps23
  go_upto_region 4 with (fail)
  have hq : ((w.alloc (.cells #[.slice none 0 0, .bool false, .bool false, .int .i64 0] 32)).alloc (.cells #[.slice none 0 0, .bool false, .bool false, .int .i64 0] 32)).heap[w.heap.size]? = some (.cells #[.slice none 0 0, .bool false, .bool false, .int .i64 0] 32 (0, 0)) := blk_alloc (alloc_at _ _) _
  have ho : ((w.alloc (.cells #[.slice none 0 0, .bool false, .bool false, .int .i64 0] 32)).alloc (.cells #[.slice none 0 0, .bool false, .bool false, .int .i64 0] 32)).heap[w.heap.size + 1]? = some (.cells #[.slice none 0 0, .bool false, .bool false, .int .i64 0] 32 (0, 0)) := by
    have := alloc_at (w.alloc (.cells #[.slice none 0 0, .bool false, .bool false, .int .i64 0] 32)) (.cells #[.slice none 0 0, .bool false, .bool false, .int .i64 0] 32)
    simpa using this
  have hb : Below w.heap.size w ((w.alloc (.cells #[.slice none 0 0, .bool false, .bool false, .int .i64 0] 32)).alloc (.cells #[.slice none 0 0, .bool false, .bool false, .int .i64 0] 32)) := ((Below.refl _ w).alloc (Nat.le_refl _) _).alloc (by simp) _
  have hz : base ≤ ((w.alloc (.cells #[.slice none 0 0, .bool false, .bool false, .int .i64 0] 32)).alloc (.cells #[.slice none 0 0, .bool false, .bool false, .int .i64 0] 32)).heap.size := by have := HBASE.out; simp; omega
  generalize (w.alloc (.cells #[.slice none 0 0, .bool false, .bool false, .int .i64 0] 32)).alloc (.cells #[.slice none 0 0, .bool false, .bool false, .int .i64 0] 32) = W1 at hq ho hb hz ⊢
  have HB := Aside0.mk hb
  have HO := Aside0.mk ho
  have HQ := Aside0.mk hq
  have HZ := Aside0.mk hz
  clear hb ho hq hz
  go_wp2
  go_loopw [9] (fun i wr => ∃ (k : Nat) (v : Value), k ≤ n ∧ i = .int .i64 k ∧ Aside0 (Below w.heap.size w wr) ∧ Aside0 (wr.heap[w.heap.size + 1]? = some (.cells #[v, .bool false, .bool false, .int .i64 0] 32 (0, 0))) ∧
      Aside0 (wr.heap[w.heap.size]? = some (.cells #[.slice none 0 0, .bool false, .bool false, .int .i64 0] 32 (0, 0))) ∧ Aside0 (Kd.N kB 62 wr base (fun k => base ≤ k) v (rowL k ps [])) ∧ Aside0 (base ≤ wr.heap.size))
    (fun i _ => n - (intOf i).toNat)
  case atStart => exact ⟨0, .slice none 0 0, Nat.zero_le _, rfl, HB, HO, HQ, ⟨Kd.N_nil _ _ _ _ _⟩, HZ⟩
  case round =>
    clear HB HO HQ HZ
    obtain ⟨k, v, hk, rfl, HB, HO, HQ, HN, HZ⟩ := hrel
    have ho := HO.out
    have hq := HQ.out
    obtain ⟨zo0, zo1, zo2, zo3, yo0, yo1, yo2, yo3⟩ := blk4 ho
    obtain ⟨zr0, zr1, zr2, zr3, yr0, yr1, yr2, yr3⟩ := blk4 hq
    clear ho hq
    by_cases hlt : k < n
    · go_upto_region 7 with (fail)
      obtain ⟨zp0, zp1, zp2, zp3, yp0, yp1, yp2, yp3⟩ := blk4 (blk_alloc HO.out (.cells mc 54))
      obtain ⟨zs0, zs1, zs2, zs3, ys0, ys1, ys2, ys3⟩ := blk4 (blk_alloc (blk_alloc HO.out (.cells mc 54)) (.cells #[.slice (some ⟨wr.heap.size, 0, none⟩) ps.length ps.length, .int .i64 0, .int .i64 0, .bool false] 62))
      have hel : Kd.FK kB (wr.alloc (.cells mc 54)) (fun k => k = wr.heap.size) ⟨ps, 0, 0, false⟩ [.slice (some ⟨wr.heap.size, 0, none⟩) ps.length ps.length, .int .i64 0, .int .i64 0, .bool false] :=
        k62_mkF _ _ ⟨ps, 0, 0, false⟩ (Nat.le_refl _) (Kd.R_F (HMR.out wr base HZ.out))
      have hNN := Kd.N_alloc HN.out (.cells mc 54)
      have hlk : ∀ k', v.ownBlock = some k' → k' < wr.heap.size := Kd.N_lt HN.out
      have HEL := Aside0.mk hel
      have HNN := Aside0.mk hNN
      have HLK := Aside0.mk hlk
      clear hel hNN hlk
      go_region_law (first
        | (refine else_E (by rfl) (Kd.N_append_step kB (w0 := (wr.alloc (.cells mc 54)).drew) (W := (wr.alloc (.cells mc 54)).drew) base (by rfl) (.tmp 32) (.tmp 36) 30 62 (.agg #[(.slice none 0 0), (.int .i64 0), (.int .i64 0), (.bool false)]) 48 (by rfl) Try.underlying30 xinfo62 rfl (by decide) (by omega) v (rowL k ps []) ⟨ps, 0, 0, false⟩ [.slice (some ⟨wr.heap.size, 0, none⟩) ps.length ps.length, .int .i64 0, .int .i64 0, .bool false] (fun k => base ≤ k) (fun k => k = wr.heap.size) (by rfl) (by have e : (wr.alloc (.cells mc 54)).drew.heap.size = wr.heap.size + 1 := (by simp); rw [e]; first | done | rfl | simp) ?aP ?aK ?aF ?aO ?aB ?aS ?aL ?_); (case aP => exact Kd.FK_step HEL.out (fun _ _ _ => rfl)); (case aK => exact (fun k' hk' => ⟨by rw [hk']; exact HZ.out, fun e => by have := HLK.out k' e.symm; omega⟩)); (case aF => exact (fun k' hk' => Nat.le_trans (by have := HZ.out; simp; omega) hk')); (case aO => exact Kd.N_drew HNN.out); (case aB => exact Below.refl _ _); (case aS => have := HZ.out; simp; omega); (case aL => rw [rowL_length]; omega); intro v1 w1 hN1 hb1 hg1 hat1; rw [rowL_snoc] at hN1; obtain ⟨A1, c1, hv1⟩ := Kd.N_slice hN1; rw [rowL_length] at hv1; subst hv1; have q0 := (hb1.block w.heap.size (by have := HBASE.out; omega)).trans (blk_alloc HQ.out (.cells mc 54)); have q1 := (hb1.block (w.heap.size + 1) (by have := HBASE.out; omega)).trans (blk_alloc HO.out (.cells mc 54)); have hsz := hb1.size; obtain ⟨zt0, zt1, zt2, zt3, yt0, yt1, yt2, yt3⟩ := blk4 q1; have HQ1 := Aside0.mk q0; have HO1 := Aside0.mk q1; have HN1 := Aside0.mk hN1; have HB1 := Aside0.mk hb1; clear hN1 hb1 hg1 hat1 q0 q1 hsz))
      all_goals
        go_wp2
        have hbs := HBASE.out
        have hbb := (below_drew (below_alloc HB.out (.cells mc 54))).trans (HB1.out.mono (show w.heap.size ≤ base by omega))
        have hlast : base ≤ w1.heap.size := by
          have h7 := HZ.out
          have h8 := HB1.out.size
          simp at h8
          omega
        refine ⟨⟨k + 1, _, by omega, by go_num, ⟨below_set (j := 0) hbb (show w.heap.size ≤ w.heap.size + 1 by omega)⟩, ⟨blk_put HO1.out 0 _ rfl⟩, ⟨(Below.heap_setCell w1 ⟨w.heap.size + 1, 0, none⟩ _ w.heap.size (show w.heap.size ≠ w.heap.size + 1 by omega)).trans HQ1.out⟩, ⟨Kd.N_far (p := ⟨w.heap.size + 1, 0, none⟩) HN1.out (fun k' hk' => by have h9 : base ≤ k' := hk'; show k' ≠ w.heap.size + 1; omega) _⟩, ⟨by simpa using hlast⟩⟩, by simp [intOf]; omega⟩
    · have hke : k = n := by omega
      rw [hke] at HN
      obtain ⟨g, cap, rfl, hg, hgl, hcap, hrow⟩ := Row.of_N HN.out (by rw [rowL_length]; omega) (fun k hk => hk)
      rw [rowL_length] at HO hcap
      have HROW := Aside0.mk hrow
      have HG := Aside0.mk hg
      clear hke hrow hg HN hgl
      go_upto_region 8 with (fail)
      clear zo0 zo1 zo2 zo3 yo0 yo1 yo2 yo3 zr0 zr1 zr2 zr3 yr0 yr1 yr2 yr3
      go_wp2
      go_loopw [10] (fun i wr => ∃ k : Nat, k ≤ bad.length ∧ i = .int .i64 k ∧ Aside0 (Below w.heap.size w wr) ∧ Aside0 (wr.heap[w.heap.size + 1]? = some (.cells #[.slice (some ⟨g, 0, none⟩) n cap, .bool false, .bool false, .int .i64 0] 32 (0, 0))) ∧
          Aside0 (wr.heap[w.heap.size]? = some (.cells #[.slice none 0 0, .bool false, .bool false, .int .i64 0] 32 (0, 0))) ∧ Aside0 (Row wr base g (rowL n ps (bad.take k))) ∧ Aside0 ((bad.take k).any (oddB (n : Int)) = false))
        (fun i _ => bad.length - (intOf i).toNat)
      case atStart => exact ⟨0, Nat.zero_le _, rfl, HB, HO, HQ, by simpa using HROW, ⟨rfl⟩⟩
      case round =>
        clear HB HO HQ HROW
        obtain ⟨k, hk, rfl, HB, HO, HQ, HROW, HANY⟩ := hrel
        have ho := HO.out
        have hq := HQ.out
        obtain ⟨zo0, zo1, zo2, zo3, yo0, yo1, yo2, yo3⟩ := blk4 ho
        obtain ⟨zr0, zr1, zr2, zr3, yr0, yr1, yr2, yr3⟩ := blk4 hq
        clear ho hq
        by_cases hlt : k < bad.length
        · obtain ⟨ad, rfl, hcs⟩ := RD.out.2.2 (by omega)
          have hc1 := pw_cell_below HB.out (hcs k hlt)
          have hsu := oddB_succ (n : Int) bad k hlt
          have hhit := oddB_hit (n : Int) bad k hlt
          have htk : bad.take k ++ [bad.getD k 0] = bad.take (k + 1) := by
            rw [List.take_succ_eq_append_getElem hlt, List.getD_eq_getElem?_getD, List.getElem?_eq_getElem hlt]
            rfl
          obtain ⟨x, hx⟩ : ∃ x, bad.getD k 0 = x := ⟨_, rfl⟩
          rw [hx] at hc1 hsu hhit htk
          have HX := Aside0.mk hx
          have HTK := Aside0.mk htk
          have HSU := Aside0.mk hsu
          have HHIT := Aside0.mk hhit
          clear hcs hx htk hsu hhit
          have hcase : (oddB (n : Int) x = true ∧ (x < 0 ∨ (0 ≤ x ∧ (n : Int) ≤ x))) ∨ (oddB (n : Int) x = false ∧ 0 ≤ x ∧ x < (n : Int)) := by
            unfold oddB
            by_cases a0 : x < 0
            · exact .inl ⟨by simp [a0], .inl a0⟩
            by_cases a1 : (n : Int) ≤ x
            · exact .inl ⟨by simp [a1], .inr ⟨by omega, a1⟩⟩
            exact .inr ⟨by simp [a0, a1], by omega, by omega⟩
          rcases hcase with ⟨hodd, hc⟩ | ⟨hodd, x0, x1⟩
          · have hr : res = ([], false, false, 0, 1) := by rw [← HRES.out, if_pos (HHIT.out hodd)]
            have HRR := Aside0.mk hr
            clear hr hodd
            rcases hc with hc | ⟨hc, hc'⟩
            all_goals
              go_wp2
              have hbw := below4 HB.out (Nat.le_refl w.heap.size) (.slice none 0 0) (.bool false) (.bool false) (.int .i64 0)
              refine bodyPost_ret (results_ct rfl _ _ w.heap.size 32 #[.slice none 0 0, .bool false, .bool false, .int .i64 0] (0, 0) _ rfl (put4 HQ.out _ _ _ _) Try.underlying32 rfl (by kernel_rfl)) rfl ?_
              rw [HRR.out]
              exact ⟨none, 0, rfl, Nat.le_refl _, Kd.F_nil _ _ _, hbw⟩
          · have HODD := Aside0.mk hodd
            have hat := rowL_at (ps := ps) (S := bad.take k) (show x.toNat < n by omega)
            obtain ⟨_, ze3, _, ye3⟩ := HROW.out.cell hat
            have HAT := Aside0.mk hat
            clear hodd hat
            go_upto_region 13 with (fail)
            go_region
            all_goals
              go_wp2
              have hbs := HBASE.out
              have hg := HG.out
              have h5 := HROW.out.bad HAT.out
              have h6 := rowL_bad (n := n) (ps := ps) (S := bad.take k) x0
              rw [h6, HTK.out] at h5
              refine ⟨⟨k + 1, by omega, by go_num, ⟨below_drew (below_set (j := x.toNat * 4 + 3) (v := .bool true) HB.out (show w.heap.size ≤ g by omega))⟩, ⟨?_⟩, ⟨?_⟩, ⟨h5.below (below_drew (Below.refl _ _)) hg⟩, ⟨by rw [HSU.out, HANY.out, HODD.out]; rfl⟩⟩, by simp [intOf]; omega⟩
              · exact (Below.heap_setCell _ ⟨g, x.toNat * 4 + 3, none⟩ _ (w.heap.size + 1) (show w.heap.size + 1 ≠ g by omega)).trans HO.out
              · exact (Below.heap_setCell _ ⟨g, x.toNat * 4 + 3, none⟩ _ w.heap.size (show w.heap.size ≠ g by omega)).trans HQ.out
        · have hke : bad.take k = bad := List.take_of_length_le (by omega)
          rw [hke] at HROW HANY
          have hr : res = (rowL n ps bad, false, false, 0, 0) := by rw [← HRES.out, if_neg (by rw [HANY.out]; simp)]
          have HRR := Aside0.mk hr
          clear hke hr
          go_wp2
          have hbs := HBASE.out
          have hbw := below4 HB.out (Nat.le_refl w.heap.size) (.slice (some ⟨g, 0, none⟩) n cap) (.bool false) (.bool false) (.int .i64 0)
          have h5 := HROW.out.step (fun k hk _ => far4 wr w.heap.size (.slice (some ⟨g, 0, none⟩) n cap) (.bool false) (.bool false) (.int .i64 0) (show k ≠ w.heap.size by omega)) HG.out
          have h6 : Kd.F kB _ (fun k => P k ∨ w.heap.size ≤ k) _ _ _ := Kd.F_mono (h5.F (by rw [rowL_length]; omega) HG.out) (fun k hk => .inr (by omega))
          refine bodyPost_ret (results_ct rfl _ _ w.heap.size 32 #[.slice (some ⟨g, 0, none⟩) n cap, .bool false, .bool false, .int .i64 0] (0, 0) _ rfl (put4 HQ.out _ _ _ _) Try.underlying32 rfl (by kernel_rfl)) rfl ?_
          rw [HRR.out]
          refine ⟨some ⟨g, 0, none⟩, cap, ?_, by rw [rowL_length]; exact hcap, h6, hbw⟩
          rw [rowL_length]
          rfl
/-- The document's New. -/
theorem rnew_any (blocks pages : Int) (A : Option Addr) (c : Nat) (bad : List Int) (P : Nat → Prop) (w : World) (hR : ReadsOf (Value.int .i64) (0 : Int) w A bad.length bad) :
    Calls Try.prog 23 #[.int .i64 blocks, .int .i64 pages, .slice A bad.length c] w fun e w' => Out P w w' e (newV blocks pages bad) := by
  by_cases h : blocks < 1 ∨ 32 < blocks ∨ pages < 1 ∨ 16 < pages
  · have e : newV blocks pages bad = ([], false, false, 0, 1) := by unfold newV; rw [if_pos (by rcases h with h | h | h | h <;> simp [h])]
    rw [e]
    exact rnew_no blocks pages A c bad P w h
  · have e : newV blocks pages bad = if bad.any (oddB blocks) = true then ([], false, false, 0, 1) else (rowL blocks.toNat (List.replicate pages.toNat zP) bad, false, false, 0, 0) := by
      unfold newV
      by_cases h2 : bad.any (oddB blocks) = true
      · rw [if_pos h2, if_pos (.inr (.inr (.inr (.inr h2))))]
      · rw [if_neg h2, if_neg (fun h3 => by rcases h3 with h3 | h3 | h3 | h3 | h3 <;> first | exact h2 h3 | omega)]
    rw [e]
    exact rnew_go blocks pages A c bad P w hR (by omega) (by omega) (by omega) (by omega)
end Go.Proofs.Ytfolonajajideaa.X
