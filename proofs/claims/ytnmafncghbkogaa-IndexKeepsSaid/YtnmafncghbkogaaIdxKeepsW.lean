/- IndexKeeps, walked: its loops. -/
import Derived.Test.YtnmafncghbkogaaIdxKeeps
namespace Go.Proofs.Ytnmafncghbkogaa.X
open Go.RowKit Go.Proofs.Ytnmafncghbkogaa.PAll Go.Proofs.YtnmafncghbkogaaW.PrintWords Go.Proofs.YtnmafncghbkogaaW.PrintLast Go.Proofs.YtnmafncghbkogaaW.PrintMore
set_option linter.unusedVariables false
set_option linter.unusedSimpArgs false
attribute [local go_sem high] eqA3
/-- What has been counted of what was found. -/
def HC3 (W : World) (cb : Nat) (ys : List Int) : Prop := ∃ cur : Array Value, W.heap[cb]? = some (.cells cur 25 (0, 0)) ∧ ∀ q : Nat, q < 3 → cur[q]? = some (.int .i64 (ys.countP (fun x => x == (q : Int)) : Nat))
theorem HC3.get {W : World} {cb : Nat} {ys : List Int} (h : HC3 W cb ys) {q : Nat} (hq : q < 3) : W.cell? ⟨cb, q, none⟩ = some (.int .i64 (ys.countP (fun x => x == (q : Int)) : Nat)) ∧ W.frozen? ⟨cb, q, none⟩ = false := by
  obtain ⟨cur, h1, h2⟩ := h
  exact ⟨(blk_cell h1 _).trans (h2 q hq), blk_frozen h1 _⟩
theorem HC3.step {W W1 : World} {cb : Nat} {ys : List Int} (h : HC3 W cb ys) (hk : W1.heap[cb]? = W.heap[cb]?) : HC3 W1 cb ys := by
  obtain ⟨cur, h1, h2⟩ := h
  exact ⟨cur, hk.trans h1, h2⟩
theorem HC3.put {W : World} {cb : Nat} {ys : List Int} (h : HC3 W cb ys) {q : Nat} (hq : q < 3) (z : Int) (hz : z = (ys.countP (fun x => x == (q : Int)) : Nat) + 1) : HC3 (W.setCell ⟨cb, q, none⟩ (.int .i64 z)) cb (ys ++ [(q : Int)]) := by
  obtain ⟨cur, h1, h2⟩ := h
  refine ⟨_, blk_setC h1 _ _, fun q' hq' => ?_⟩
  rw [List.countP_append, List.countP_singleton]
  by_cases e : q' = q
  · subst e
    have hl := (Array.getElem?_eq_some_iff.1 (h2 _ hq')).1
    simp [hl, hz]
  · rw [Array.getElem?_setIfInBounds_ne (by omega), h2 q' hq', if_neg (by simp; omega)]
    rfl
/-- The loop's relation. -/
def RelK (w : World) (hb n : Nat) (sv av iv : Value) (W : World) : Prop := ∃ (i : Nat) (l : List Sl), i ≤ 20 ∧ iv = .int .i64 i ∧ av = .int .i64 (l.countP isUsed : Nat) ∧ OkK n l ∧ Own9 w W hb sv l ∧ HV W hb l ∧ Below w.heap.size w W
set_option maxRecDepth 100000 in
set_option maxHeartbeats 16000000 in
theorem keeps_any (A : Option Addr) (c : Nat) (zs : List St) (a1 : Int) (hz : ∀ s ∈ zs, SB s) (h1 : 0 ≤ a1 ∧ a1 ≤ 255) (w : World) (hC : Kd.C k28 w A zs.length zs) :
    Calls Try.prog 3 #[.slice A zs.length c, .int .u8 a1] w fun e w' => e = .returned (.bool true) ∧ Below w.heap.size w w' := by
  obtain ⟨ka, hka⟩ := Ev.rounds awake_ev
  obtain ⟨n, hn1, hn8⟩ : ∃ n : Nat, a1 % 9 = (n : Int) ∧ n ≤ 8 := ⟨(a1 % 9).toNat, by omega, by omega⟩
  have HC := Aside0.mk hC
  have hlm : zs.length ≤ 9223372036854775807 := hC.2.1
  have HZ := Aside0.mk hz
  have hu := Try.underlying24
  clear hC hz
  go_enter Try.func3, Try.ntmps3
  go_wp2_with (first
    | (go_at_call 6; refine (clinkerlaw09_awake.calls ka true _ hka).mono ?_; rintro e w1 ⟨rfl, hb1⟩)
    | ((with_reducible refine gate_dst (N := 24) rfl ?_); (try (refine gate_guard (by rfl) ?_; dsimp only)); go_loud (refine Kd.R_make kS _ tS rfl (N := 24) rfl 24 _ _ rfl (a1 % 9) rfl rfl hu (.agg #[(.int .i64 0), (.int .i64 0), (.int .i64 0)]) 24 info41 rfl (by decide) (by omega) zS (ok := fun _ => True) (okp := fun _ => True) (k41_mkM _ _ _ zS) (fun _ hk => hk) trivial (by omega) (by omega) (Below.refl _ _) (Nat.le_refl _) ?_; intro v1 w2 ho1 hb2 hg_ hnew_; clear hg_ hnew_)))
  obtain ⟨hb, hhb⟩ : ∃ hb, w2.heap.size = hb := ⟨_, rfl⟩
  obtain ⟨w3, hw3⟩ : ∃ w3 : World, w2.alloc (.cells #[.int .i64 0, .int .i64 0, .int .i64 0, .int .i64 0, .int .i64 0, .int .i64 0, .int .i64 0, .int .i64 0, .int .i64 0, .int .i64 0, .int .i64 0, .int .i64 0, .int .i64 0, .int .i64 0, .int .i64 0, .int .i64 0, .int .i64 0, .int .i64 0, .int .i64 0, .int .i64 0, .int .i64 0, .int .i64 0, .int .i64 0, .int .i64 0, .int .i64 0, .int .i64 0, .int .i64 0, .int .i64 0, .int .i64 0, .int .i64 0, .int .i64 0, .int .i64 0, .int .i64 0, .int .i64 0, .int .i64 0, .int .i64 0] 26) = w3 := ⟨_, rfl⟩
  rw [hw3, hhb]
  have hs3 : w3.heap.size = hb + 1 := by rw [← hw3]; simp [hhb]
  have hb3 : Below w.heap.size w w3 := by rw [← hw3]; exact below_alloc (below_step hb1 hb2) _
  have hhw : w.heap.size ≤ hb := by rw [← hhb]; have := hb1.size; have := hb2.size; omega
  have hV3 : HV w3 hb (List.replicate n zS) := by
    refine ⟨_, by rw [← hw3, ← hhb]; exact World.alloc_heap_new w2 _, fun p q hp hq => ?_⟩
    rw [cnt_zeros]
    have hrep : (#[.int .i64 0, .int .i64 0, .int .i64 0, .int .i64 0, .int .i64 0, .int .i64 0, .int .i64 0, .int .i64 0, .int .i64 0, .int .i64 0, .int .i64 0, .int .i64 0, .int .i64 0, .int .i64 0, .int .i64 0, .int .i64 0, .int .i64 0, .int .i64 0, .int .i64 0, .int .i64 0, .int .i64 0, .int .i64 0, .int .i64 0, .int .i64 0, .int .i64 0, .int .i64 0, .int .i64 0, .int .i64 0, .int .i64 0, .int .i64 0, .int .i64 0, .int .i64 0, .int .i64 0, .int .i64 0, .int .i64 0, .int .i64 0] : Array Value) = Array.replicate 36 (.int .i64 0) := rfl
    rw [hrep, Array.getElem?_replicate, if_pos (by omega)]
    rfl
  have hO3 : Own9 w w3 hb v1 (List.replicate n zS) := by
    rw [hn1, Int.toNat_natCast] at ho1
    have h2 := Kd.R_V (base' := w.heap.size) (Kd.R_bound ho1)
    rw [← hw3]
    refine Kd.V_alloc (Kd.V_mono h2 (fun k hk => ?_)) _
    have := hk.2.1
    have := hk.2.2.1
    have := hb1.size
    omega
  have HN := Aside0.mk hn1
  clear hw3 ho1 hb1 hb2 hhb hn1
  go_loopw [6, 8, 9] (fun sv av iv W => RelK w hb n sv av iv W) (fun _ _ iv _ => 20 - (intOf iv).toNat)
  case atStart => exact ⟨0, _, by omega, rfl, by rw [List.countP_replicate]; rfl, okK_zeros n, hO3, hV3, hb3⟩
  case round =>
    obtain ⟨i, l, hi, rfl, rfl, hok, hown, hV, hbW⟩ := hrel
    obtain ⟨A', c', rfl⟩ := Kd.V_slice hown
    have HV0 := Aside0.mk hV
    have HO := Aside0.mk hown
    have HK := Aside0.mk hok
    have hl8 : l.length ≤ 100000 := by rw [hok.ok.len]; omega
    have hhbW := hV.lt
    have HBW := Aside0.mk hbW
    have hmix : Try.prog.follows .mixedOrders = true := by kernel_rfl
    clear hV hown hok hbW
    by_cases hlt : i < zs.length
    case neg =>
      have d1 : decide ((i : Int) < (zs.length : Int)) = false := decide_eq_false (by omega)
      go_wp2
      go_ret
      exact ⟨rfl, HBW.out⟩
    have d1 : decide ((i : Int) < (zs.length : Int)) = true := decide_eq_true (by omega)
    by_cases h20 : i < 20
    case neg =>
      have d2 : decide ((i : Int) < 20) = false := decide_eq_false (by omega)
      go_wp2
      go_ret
      exact ⟨rfl, HBW.out⟩
    have d2 : decide ((i : Int) < 20) = true := decide_eq_true (by omega)
    have hs := HZ.out _ (List.getElem_mem hlt)
    have hCr := Kd.C_below HC.out HBW.out
    obtain ⟨ad, rfl, z0, z1, z2⟩ := at_T28 hCr (i : Int) (by omega) (by omega)
    have hrd : rd_T28 zs (i : Int) = zs[i] := by
      unfold rd_T28
      rw [Int.toNat_natCast, List.getD_eq_getElem?_getD, List.getElem?_eq_getElem hlt]
      rfl
    rw [hrd, Int.toNat_natCast] at z0 z1 z2
    obtain ⟨dr, edr⟩ : ∃ dr, zs[i].f0 = dr := ⟨_, rfl⟩
    obtain ⟨f1, ef1⟩ : ∃ f1, zs[i].f1 = f1 := ⟨_, rfl⟩
    obtain ⟨f2, ef2⟩ : ∃ f2, zs[i].f2 = f2 := ⟨_, rfl⟩
    have hs1 : 0 ≤ f1 ∧ f1 ≤ 255 := by rw [← ef1]; exact hs.1
    have hs2 : 0 ≤ f2 ∧ f2 ≤ 255 := by rw [← ef2]; exact hs.2
    rw [edr] at z0
    rw [ef1] at z1
    rw [ef2] at z2
    obtain ⟨p, hp, hp12⟩ : ∃ p : Nat, f1 % 12 = (p : Int) ∧ p < 12 := ⟨(f1 % 12).toNat, by omega, by omega⟩
    obtain ⟨q, hq, hq3⟩ : ∃ q : Nat, f2 % 3 = (q : Int) ∧ q < 3 := ⟨(f2 % 3).toNat, by omega, by omega⟩
    clear hCr hrd edr ef1 ef2 hs
    have hpI : (p : Int) < 12 := by omega
    have hqI : (q : Int) < 3 := by omega
    go_upto_region 10 with (fail)
    go_quiet (fail)
    rw [hp, hq]
    obtain ⟨W1, hW1⟩ : ∃ W1, wr.drewN nq = W1 := ⟨_, rfl⟩
    rw [hW1]
    have hbd : Below wr.heap.size wr W1 := by rw [← hW1]; exact pw_below_drewN (Below.refl _ _) nq
    have z0' : W1.cell? (ad.add (i * 3)) = some (.bool dr) := by rw [← hW1]; exact z0
    have HV1 := Aside0.mk (HV0.out.below hbd)
    have HO1 := Aside0.mk (Kd.V_below HO.out hbd)
    have HBW1 := Aside0.mk (below_step HBW.out hbd)
    have hhb1 : hb < W1.heap.size := HV1.out.lt
    have hO1' : Kd.V kS tS W1 W1.heap.size (fun k => w.heap.size ≤ k ∧ k ≠ hb) (.slice A' l.length c') l := by obtain ⟨A_, c_, e1, e2, e3⟩ := HO1.out; exact ⟨A_, c_, e1, e2, e3⟩
    have HDR := Aside0.mk (drop_any (fun k => w.heap.size ≤ k ∧ k ≠ hb) A' c' l p q W1 hO1' hl8)
    have HPU := Aside0.mk (put_any A' c' l p q W1 (Kd.V_reads' hO1').2.2 (Kd.V_reads' hO1').2.1 hl8)
    have hcb : cnt l p q ≤ 100000 := by have := List.countP_le_length (p := fun s => matchS (p : Int) s && s.f2 == (q : Int)) (l := l); unfold cnt; omega
    have hub : l.countP isUsed ≤ 100000 := by have := List.countP_le_length (p := isUsed) (l := l); omega
    have hcD := HK.out.drop hp12 hq3
    have hcP := HK.out.put hp12 hq3
    obtain ⟨l2, hl2⟩ : ∃ l2, dropV l (p : Int) (q : Int) = l2 := ⟨_, rfl⟩
    obtain ⟨l3, e3, hl3⟩ : ∃ l3 e3, putV l (p : Int) (q : Int) = (l3, e3) := ⟨_, _, rfl⟩
    rw [hl2] at HDR hcD
    rw [hl3] at HPU hcP
    have HCD := Aside0.mk hcD
    have HCP := Aside0.mk hcP
    clear z0 z1 z2 hbd hW1 hO1' hcD hcP hl2 hl3
    go_upto_if 53 with (fail)
    go_cut [6, 8] (fun sv av wc => ∃ l' : List Sl, av = .int .i64 (l'.countP isUsed : Nat) ∧ OkK n l' ∧ Own9 w wc hb sv l' ∧ HV wc hb l' ∧ Below w.heap.size w wc)
    case first =>
      cases dr with
      | true =>
        go_upto_region 13 with (go_at_call 7; refine HDR.out.mono ?_; rintro e w5 ⟨v5, rfl, ho5, hb5⟩; obtain ⟨A5, c5, rfl⟩ := Kd.V_slice ho5)
        clear HPU HCP
        rcases HCD.out with ⟨hpos, hok2, hcu, hcp, hco⟩ | ⟨h0, rfl⟩
        · have d3 : decide ((cnt l p q : Int) > 0) = true := decide_eq_true (by omega)
          obtain ⟨g0, g1⟩ := (HV1.out.below hb5).get hp12 hq3
          have HB5 := Aside0.mk hb5
          have HO5 := Aside0.mk ho5
          have HCO := Aside0.mk hco
          have HOK2 := Aside0.mk hok2
          clear hb5 ho5 hco hok2
          clear g0 g1
          obtain ⟨g0, g1⟩ := (HV1.out.below HB5.out).get hp12 hq3
          go_upto_region 14 with (fail)
          go_still_tail 10, hmix
          clear g0 g1
          obtain ⟨W6, hW6⟩ : ∃ W6, w5.drew = W6 := ⟨_, rfl⟩
          have hW6' : ({ heap := w5.heap, tape := w5.tape, drawn := w5.drawn + 1, os := w5.os, output := w5.output } : World) = W6 := hW6
          rw [hW6']
          have b56 : Below w5.heap.size w5 W6 := by rw [← hW6]; exact below_drew1 (Below.refl _ _)
          have hV6 := (HV1.out.below HB5.out).below b56
          have hO6 := Kd.V_below HO5.out b56
          obtain ⟨g0, g1⟩ := hV6.get hp12 hq3
          have HV6 := Aside0.mk hV6
          have HO6 := Aside0.mk hO6
          have HB6 := Aside0.mk (below_step (below_step HBW1.out HB5.out) b56)
          clear hW6 hW6' b56 hV6 hO6
          go_wp2
          go_meet
          case rel =>
            refine ⟨l2, ?_, HOK2.out, ?_, HV6.out.put hp12 hq3 _ (by omega) (fun p' q' _ _ h => HCO.out p' q' h), HB6.out.setCell (p := ⟨hb, p * 3 + q, none⟩) (show w.heap.size ≤ hb by omega) _⟩
            · congr 1; omega
            · obtain ⟨A_, c_, e1, e2, e3⟩ := HO6.out
              refine Kd.V_mono (ok := fun k => (w.heap.size ≤ k ∧ k ≠ hb ∨ W1.heap.size ≤ k)) (Kd.V_far (p := ⟨hb, p * 3 + q, none⟩) (show Kd.V kS tS W6 w.heap.size _ _ _ from ⟨A_, c_, e1, e2, e3⟩) (fun k hk => ?_) _) (fun k hk => ?_)
              · show k ≠ hb
                rcases hk with hk | hk <;> omega
              · have := HBW1.out.size
                rcases hk with hk | hk
                · exact hk
                · exact ⟨by omega, by omega⟩
        · have d3 : decide ((cnt l2 p q : Int) > 0) = false := decide_eq_false (by omega)
          obtain ⟨g0, g1⟩ := (HV1.out.below hb5).get hp12 hq3
          have HB5 := Aside0.mk hb5
          have HO5 := Aside0.mk ho5
          clear hb5 ho5
          go_wp2
          go_meet
          case rel =>
            refine ⟨l2, rfl, HK.out, Kd.V_mono (by obtain ⟨A_, c_, e1, e2, e3⟩ := HO5.out; exact ⟨A_, c_, e1, e2, e3⟩) (fun k hk => ?_), HV1.out.below HB5.out, below_step HBW1.out HB5.out⟩
            have := HBW1.out.size
            rcases hk with hk | hk
            · exact hk
            · exact ⟨by omega, by omega⟩
      | false =>
        clear HDR HCD
        go_upto_region 17 with (go_at_call 8; refine HPU.out.mono ?_; rintro e w5 ⟨v5, rfl, ho5, hb5⟩; obtain ⟨A5, c5, rfl⟩ := Kd.V_slice ho5)
        have HB5 := Aside0.mk hb5
        have HO5 := Aside0.mk ho5
        clear hb5 ho5
        rcases HCP.out with ⟨hlt2, l4, he4, hok2, hcu, hcp, hco⟩ | ⟨hfull, he4⟩
        · cases he4
          have d3 : decide (l.countP isUsed < l.length) = true := decide_eq_true (by rw [HK.out.ok.len]; omega)
          have HCO := Aside0.mk hco
          have HOK2 := Aside0.mk hok2
          have HCU := Aside0.mk hcu
          obtain ⟨g0, g1⟩ := (HV1.out.below HB5.out).get hp12 hq3
          clear hco hok2 hcu
          go_upto_region 22 with (fail)
          go_still_tail 10, hmix
          clear g0 g1
          obtain ⟨W6, hW6⟩ : ∃ W6, w5.drew = W6 := ⟨_, rfl⟩
          have hW6' : ({ heap := w5.heap, tape := w5.tape, drawn := w5.drawn + 1, os := w5.os, output := w5.output } : World) = W6 := hW6
          rw [hW6']
          have b56 : Below w5.heap.size w5 W6 := by rw [← hW6]; exact below_drew1 (Below.refl _ _)
          have hV6 := (HV1.out.below HB5.out).below b56
          have hO6 := Kd.V_below HO5.out b56
          obtain ⟨g0, g1⟩ := hV6.get hp12 hq3
          have HV6 := Aside0.mk hV6
          have HO6 := Aside0.mk hO6
          have HB6 := Aside0.mk (below_step (below_step HBW1.out HB5.out) b56)
          clear hW6 hW6' b56 hV6 hO6
          have hcu2 := HCU.out
          go_wp2
          go_meet
          case rel =>
            refine ⟨l3, ?_, HOK2.out, ?_, HV6.out.put hp12 hq3 _ (by omega) (fun p' q' _ _ h => HCO.out p' q' h), HB6.out.setCell (p := ⟨hb, p * 3 + q, none⟩) (show w.heap.size ≤ hb by omega) _⟩
            · congr 1; omega
            · obtain ⟨A_, c_, e1, e2, e3⟩ := HO6.out
              refine Kd.V_mono (ok := fun k => W1.heap.size ≤ k) (Kd.V_far (p := ⟨hb, p * 3 + q, none⟩) (show Kd.V kS tS W6 w.heap.size _ _ _ from ⟨A_, c_, e1, e2, e3⟩) (fun k hk => ?_) _) (fun k hk => ?_)
              · show k ≠ hb
                omega
              · have := HBW1.out.size
                exact ⟨by omega, by omega⟩
        · cases he4
          have d3 : decide (l.countP isUsed < l.length) = false := decide_eq_false (by rw [HK.out.ok.len]; omega)
          clear hfull
          go_wp2
          go_meet
          case rel =>
            refine ⟨l, rfl, HK.out, Kd.V_below HO1.out HB5.out, HV1.out.below HB5.out, below_step HBW1.out HB5.out⟩
    case rest =>
      obtain ⟨l', rfl, hok, hown, hV, hbW⟩ := hcut
      obtain ⟨A5, c5, rfl⟩ := Kd.V_slice hown
      have HK5 := Aside0.mk hok
      have HO5 := Aside0.mk hown
      have HV5 := Aside0.mk hV
      have HB5 := Aside0.mk hbW
      have hl5 : l'.length ≤ 100000 := by rw [hok.ok.len]; omega
      clear hok hown hV hbW HDR HPU HCD HCP HV1 HO1 HK HO HV0 HBW HBW1 hcb hub
      go_wp2
      go_loopw [14] (fun pv W => ∃ p0 : Nat, p0 ≤ 12 ∧ pv = .int .i64 p0 ∧ Own9 w W hb (.slice A5 l'.length c5) l' ∧ HV W hb l' ∧ Below w.heap.size w W) (fun pv _ => 12 - (intOf pv).toNat)
      case atStart => exact ⟨0, by omega, rfl, HO5.out, HV5.out, HB5.out⟩
      case round =>
        obtain ⟨p0, hp0, rfl, hown, hV, hbW⟩ := hrel
        have hhb2 := hV.lt
        have HOA := Aside0.mk hown
        have HVA := Aside0.mk hV
        have HBA := Aside0.mk hbW
        clear hown hV hbW HO5 HV5 HB5
        by_cases hp0l : p0 < 12
        case neg =>
          have d4 : decide ((p0 : Int) < 12) = false := decide_eq_false (by omega)
          go_wp2
          exact ⟨⟨i + 1, l', by omega, by simp, rfl, HK5.out, HOA.out, HVA.out, HBA.out⟩, by simp [intOf]; omega⟩
        have d4 : decide ((p0 : Int) < 12) = true := decide_eq_true (by omega)
        obtain ⟨w6, hw6⟩ : ∃ w6 : World, wr.alloc (.cells #[.int .i64 0, .int .i64 0, .int .i64 0] 25) = w6 := ⟨_, rfl⟩
        obtain ⟨cb, hcb⟩ : ∃ cb, wr.heap.size = cb := ⟨_, rfl⟩
        have hs6 : w6.heap.size = cb + 1 := by rw [← hw6, ← hcb]; simp
        have b6 : Below wr.heap.size wr w6 := by rw [← hw6]; exact below_alloc (Below.refl _ _) _
        have hC6 : HC3 w6 cb [] := ⟨_, by rw [← hw6, ← hcb]; exact World.alloc_heap_new wr _, fun q hq => by
          match q, hq with
          | 0, _ => rfl
          | 1, _ => rfl
          | 2, _ => rfl⟩
        have hO6 : Kd.V kS tS w6 w.heap.size (fun k => (w.heap.size ≤ k ∧ k ≠ hb) ∧ k < cb) (.slice A5 l'.length c5) l' := Kd.V_mono (Kd.V_below (Kd.V_bound HOA.out) b6) (fun k hk => ⟨hk.1, by have := hk.2; omega⟩)
        have hV6 := HVA.out.below b6
        have HB6 := Aside0.mk (below_step HBA.out b6)
        obtain ⟨ys, hys⟩ : ∃ ys, findV l' (p0 : Int) = ys := ⟨_, rfl⟩
        obtain ⟨hyl, hyq, hyc⟩ := HK5.out.found p0
        rw [hys] at hyl hyq hyc
        have hFI := find_any A5 c5 l' (p0 : Int) w6 (Kd.V_reads' hO6).2.2 hl5
        rw [hys] at hFI
        have HFI := Aside0.mk hFI
        have HYQ := Aside0.mk hyq
        have HYC := Aside0.mk hyc
        have HO6 := Aside0.mk hO6
        have HV6 := Aside0.mk hV6
        have HC6 := Aside0.mk hC6
        have hwcb : w.heap.size ≤ cb := by have := HBA.out.size; omega
        have hhcb : hb < cb := by omega
        clear hFI hyq hyc hO6 hV6 hC6 hys b6
        go_wp2_with (go_at_call 9; refine HFI.out.mono ?_; rintro e w7 ⟨v7, rfl, ho7, hb7⟩)
        have hV7 := HV6.out.below hb7
        have hC7 : HC3 w7 cb [] := HC6.out.step (hb7.block _ (by omega))
        have hO7 := Kd.V_below HO6.out hb7
        have hR7 := Kd.R_V (base' := w.heap.size) (Kd.R_mono (Kd.R_bound ho7) (ok' := fun k => cb < k) (fun k hk => by have := hk.2.1; omega))
        obtain ⟨A7, c7, rfl⟩ := Kd.V_slice hR7
        have HB7 := Aside0.mk (below_step HB6.out hb7)
        have HV7 := Aside0.mk hV7
        have HC7 := Aside0.mk hC7
        have HO7 := Aside0.mk hO7
        have HR7 := Aside0.mk hR7
        clear hV7 hC7 hO7 hR7 ho7 hb7 HV6 HC6 HO6 HB6 HFI hw6 hcb
        go_loopw [17] (fun kv W => ∃ k : Nat, k ≤ ys.length ∧ kv = .int .i64 k ∧ Kd.V kS tS W w.heap.size (fun k => (w.heap.size ≤ k ∧ k ≠ hb) ∧ k < cb) (.slice A5 l'.length c5) l' ∧ HV W hb l' ∧ HC3 W cb (ys.take k) ∧ Kd.V (Kd.int .i64) 3 W w.heap.size (fun k => cb < k) (.slice A7 ys.length c7) ys ∧ Below w.heap.size w W) (fun kv _ => ys.length - (intOf kv).toNat)
        case atStart => exact ⟨0, by omega, rfl, HO7.out, HV7.out, HC7.out, HR7.out, HB7.out⟩
        case round =>
          obtain ⟨k, hk, rfl, hO8, hV8, hC8, hR8, hB8⟩ := hrel
          have HO8 := Aside0.mk hO8
          have HV8 := Aside0.mk hV8
          have HC8 := Aside0.mk hC8
          have HR8 := Aside0.mk hR8
          have HB8 := Aside0.mk hB8
          have hcbl : cb < wr.heap.size := by obtain ⟨cur, h1, _⟩ := hC8; exact blk_lt h1
          clear hO8 hV8 hC8 hR8 hB8 HO7 HV7 HC7 HR7 HB7
          by_cases hkl : k < ys.length
          case neg =>
            have d5 : decide ((k : Int) < (ys.length : Int)) = false := decide_eq_false (by omega)
            have htk : ys.take k = ys := List.take_of_length_le (by omega)
            have hm : ∀ q : Nat, q < 3 → wr.cell? ⟨cb, q, none⟩ = some (.int .i64 (cnt l' p0 q : Nat)) := fun q hq => by
              have h1 := (HC8.out.get hq).1
              rw [htk, HYC.out q] at h1
              exact h1
            have m0 := hm 0 (by omega)
            have m1 := hm 1 (by omega)
            have m2 := hm 2 (by omega)
            have t0 : wr.cell? ⟨hb, p0 * 3, none⟩ = _ := (HV8.out.get (q := 0) hp0l (by omega)).1
            have t1 := (HV8.out.get (q := 1) hp0l (by omega)).1
            have t2 := (HV8.out.get (q := 2) hp0l (by omega)).1
            have hpI2 : (p0 : Int) < 12 := by omega
            clear hm htk
            go_upto_region 34 with (fail)
            go_quiet (fail)
            have HOz := Aside0.mk (show Own9 w (wr.drewN nq) hb (.slice A5 l'.length c5) l' from Kd.V_mono (Kd.V_drewN HO8.out nq) (fun k hk => hk.1))
            have HVz := Aside0.mk (HV8.out.below (pw_below_drewN (Below.refl _ _) nq))
            have HBz := Aside0.mk (pw_below_drewN HB8.out nq)
            go_wp2
            exact ⟨⟨p0 + 1, by omega, by simp, HOz.out, HVz.out, HBz.out⟩, by simp [intOf]; omega⟩
          have d5 : decide ((k : Int) < (ys.length : Int)) = true := decide_eq_true (by omega)
          obtain ⟨q1, hq1, hxe⟩ := HYQ.out _ (List.getElem_mem hkl)
          obtain ⟨xv, hxv⟩ : ∃ xv, ys[k] = xv := ⟨_, rfl⟩
          obtain ⟨A7n, c7n, hcr⟩ : Kd.C (Kd.int .i64) wr A7 ys.length ys ∧ ys.length ≤ c7 ∧ True := ⟨(Kd.V_reads' HR8.out).2.2, (Kd.V_reads' HR8.out).2.1, trivial⟩
          obtain ⟨_, hyl2, hrs⟩ := Kd.reads_of_C (enc := Value.int .i64) (d := (0 : Int)) (h1 := fun _ => rfl) A7n
          obtain ⟨ad7, rfl, hcs⟩ := hrs (by omega)
          have y0 : wr.cell? (ad7.add k) = some (.int .i64 xv) := by
            have h1 := hcs k hkl
            rw [List.getD_eq_getElem?_getD, List.getElem?_eq_getElem hkl] at h1
            rw [← hxv]
            exact h1
          rw [hxv] at hxe
          have hx0 : 0 ≤ xv := by omega
          have hx2 : xv ≤ 2 := by omega
          have hx3 : xv < 3 := by omega
          have d6 : decide (xv < 0) = false := decide_eq_false (by omega)
          have d7 : decide (xv > 2) = false := decide_eq_false (by omega)
          obtain ⟨g0, g1⟩ := HC8.out.get (q := xv.toNat) (by omega)
          have hkx : (ys.take k).countP (fun x => x == ((xv.toNat : Nat) : Int)) ≤ 100000 := by
            have h1 := List.countP_le_length (p := fun x => x == ((xv.toNat : Nat) : Int)) (l := ys.take k)
            rw [List.length_take] at h1
            omega
          obtain ⟨cn, hcn⟩ : ∃ cn : Nat, (ys.take k).countP (fun x => x == ((xv.toNat : Nat) : Int)) = cn := ⟨_, rfl⟩
          rw [hcn] at g0 hkx
          have HX := Aside0.mk hxv
          have HCN := Aside0.mk hcn
          have HXE := Aside0.mk hxe
          clear hxv hcn hcs A7n hcr hxe
          go_wp2
          have hq1 : q1 = xv.toNat := by have := HXE.out; omega
          have htk : ys.take (k + 1) = ys.take k ++ [((xv.toNat : Nat) : Int)] := by
            rw [List.take_succ_eq_append_getElem hkl, HX.out]
            congr 2
            omega
          refine ⟨⟨k + 1, by omega, by simp, Kd.V_far (p := ⟨cb, xv.toNat, none⟩) HO8.out (fun j hj => ?_) _, HV8.out.step (Below.heap_setCell wr ⟨cb, xv.toNat, none⟩ _ hb (by show hb ≠ cb; omega)), ?_,
            Kd.V_far (p := ⟨cb, xv.toNat, none⟩) HR8.out (fun j hj => by show j ≠ cb; omega) _, HB8.out.setCell (p := ⟨cb, xv.toNat, none⟩) hwcb _⟩, by simp [intOf]; omega⟩
          · show j ≠ cb; omega
          · rw [htk]
            exact HC8.out.put (by omega) _ (by rw [HCN.out])
end Go.Proofs.Ytnmafncghbkogaa.X
