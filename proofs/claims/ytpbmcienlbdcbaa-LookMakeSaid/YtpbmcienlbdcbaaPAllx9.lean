/- Written by a program of this session (wip/xp) out of the translation: functions in plain Lean, and proofs that the calls come to these. -/
import Derived.Test.YtpbmcienlbdcbaaPAllx0
import Derived.Test.YtpbmcienlbdcbaaPAllx4
import Derived.Test.YtpbmcienlbdcbaaPAllx5
import Derived.Test.YtpbmcienlbdcbaaPAllx6
import Derived.Test.YtpbmcienlbdcbaaPAllx7
import Derived.Test.YtpbmcienlbdcbaaPAllx8
import Derived.Test.YtpbmcienlbdcbaaTagKit
namespace Go.Proofs.Ytpbmcienlbdcbaa.PAll
open Go.RowKit Go.Proofs.YtpbmcienlbdcbaaW.PrintWords Go.Proofs.YtpbmcienlbdcbaaW.PrintLast Go.Proofs.YtpbmcienlbdcbaaW.PrintMore
attribute [local go_sem] max2_int min2_int max_two min_two max_three min_three max_four min_four   -- for this text's walks alone
set_option linter.unusedVariables false
set_option linter.unusedSimpArgs false

-- XIMPORT TagKit
-- XPART
/-! ### tag_Encode: function 17 -/
def tag_Encode.e3 (k : Nat) (a1 s : ByteArray) : Option (ByteArray × Int) := if s.size + a1.size ≤ 9223372036854775807 then ((crc_Sum.f k (s ++ a1)).bind fun c => (crc_Bytes.f c).bind fun b => if s.size + b.size ≤ 9223372036854775807 then some (s ++ b, 0) else none) else none
def tag_Encode.e2 (k : Nat) (m : List Int) (a1 s : ByteArray) : Option (ByteArray × Int) := (pack_Pack.f k m).bind fun t => if t.2 = 0 then (if s.size + t.1.size ≤ 9223372036854775807 then tag_Encode.e3 k a1 (s ++ t.1) else none) else some ((⟨#[]⟩ : ByteArray), t.2)
def tag_Encode.e1 (k : Nat) (l m : List Int) (a1 s : ByteArray) : Option (ByteArray × Int) := (pack_Pack.f k l).bind fun t => if t.2 = 0 then (if s.size + t.1.size ≤ 9223372036854775807 then tag_Encode.e2 k m a1 (s ++ t.1) else none) else some ((⟨#[]⟩ : ByteArray), t.2)
def tag_Encode.e0 (k : Nat) (a b : Int) (l m : List Int) (a1 s : ByteArray) : Option (ByteArray × Int) := (pack_Pack.f k [a, b]).bind fun t => if t.2 = 0 then (if s.size + t.1.size ≤ 9223372036854775807 then tag_Encode.e1 k l m a1 (s ++ t.1) else none) else some ((⟨#[]⟩ : ByteArray), t.2)
def tag_Encode.f (k : Nat) (a0_0 : Int) (a0_1 : Int) (l0_2 : List Int) (l0_3 : List Int) (a1 : ByteArray) : Option (ByteArray × Int) :=
 (tag_Right.f a0_0 a0_1 l0_2 l0_3).bind fun ok => if ok = true then (if (a1.size : Int) > 16 then some ((⟨#[]⟩ : ByteArray), 1) else
  (tag_moved.f l0_3 1).bind fun m => tag_Encode.e0 k a0_0 a0_1 l0_2 m a1 (⟨#[]⟩ : ByteArray)) else some ((⟨#[]⟩ : ByteArray), 1)
theorem tag_Encode.mono : ∀ a0 a1 a2 a3 a4 k, LeO (tag_Encode.f k a0 a1 a2 a3 a4) (tag_Encode.f (k + 1) a0 a1 a2 a3 a4) := by
 intro a0 a1 a2 a3 a4 k
 unfold tag_Encode.f tag_Encode.e0 tag_Encode.e1 tag_Encode.e2 tag_Encode.e3
 repeat' first
  | (with_reducible exact pack_Pack.mono _ _)
  | (with_reducible exact crc_Sum.mono _ _)
  | (with_reducible exact LeO.refl _)
  | (with_reducible exact LeO.none _)
  | (with_reducible refine LeO.ite ?_ ?_)
  | (with_reducible refine LeO.bind ?_ (fun _ => ?_))
set_option maxHeartbeats 8000000 in
set_option maxRecDepth 100000 in
theorem tag_Encode.calls (k : Nat) (a0_0 : Int) (a0_1 : Int) (A0_2 : Option Addr) (c0_2 : Nat) (l0_2 : List Int) (A0_3 : Option Addr) (c0_3 : Nat) (l0_3 : List Int) (a1 : ByteArray) (r1 : ByteArray) (r2 : Int) (w : World) (hr0_2 : Kd.C (Kd.int .i64) w A0_2 l0_2.length l0_2) (hc0_2 : l0_2.length ≤ c0_2) (hr0_3 : Kd.C (Kd.int .i64) w A0_3 l0_3.length l0_3) (hc0_3 : l0_3.length ≤ c0_3) (h : tag_Encode.f k a0_0 a0_1 l0_2 l0_3 a1 = some (r1, r2)) :
  Calls Try.prog 17 #[.agg #[.int .i64 a0_0, .int .i64 a0_1, .slice A0_2 l0_2.length c0_2, .slice A0_3 l0_3.length c0_3], .string a1] w fun e w' => e = .returned (.tuple #[.string r1, .int .i64 r2]) ∧ Below w.heap.size w w' := by
 have hB0 := (Below.refl w.heap.size w).alloc (Nat.le_refl _) (.cells #[.int .i64 a0_0, .int .i64 a0_1, .slice A0_2 l0_2.length c0_2, .slice A0_3 l0_3.length c0_3] 27)
 have CS := Aside0.mk (X.cells4 w (.int .i64 a0_0) (.int .i64 a0_1) (.slice A0_2 l0_2.length c0_2) (.slice A0_3 l0_3.length c0_3) 27)
 have RR := Aside0.mk (fun (r : Bool) (hr : tag_Right.f a0_0 a0_1 l0_2 l0_3 = some r) => tag_Right.calls a0_0 a0_1 A0_2 c0_2 l0_2 A0_3 c0_3 l0_3 r (w.alloc (.cells #[.int .i64 a0_0, .int .i64 a0_1, .slice A0_2 l0_2.length c0_2, .slice A0_3 l0_3.length c0_3] 27)) (Kd.C_alloc hr0_2 _) hc0_2 (Kd.C_alloc hr0_3 _) hc0_3 hr)
 have H2 := Aside0.mk (fun (W : World) (hb : Below w.heap.size w W) => Kd.C_below hr0_2 hb)
 have H3 := Aside0.mk (fun (W : World) (hb : Below w.heap.size w W) => Kd.C_below hr0_3 hb)
 have HC2 := Aside0.mk hc0_2
 have HC3 := Aside0.mk hc0_3
 have HB0 := Aside0.mk hB0
 clear hr0_2 hr0_3 hc0_2 hc0_3 hB0
 unfold tag_Encode.f at h
 obtain ⟨ok, hok, h⟩ := Option.bind_eq_some_iff.mp h
 have RR := Aside0.mk (RR.out ok hok)
 clear hok
 have hu := Try.underlying27
 cases ok with
 | false =>
  rw [if_neg (by simp)] at h
  cases h
  go_enter Try.func17, Try.ntmps17
  go_wp2_with (go_at_call 22; refine RR.out.mono ?_; rintro e w1 ⟨rfl, hb1⟩; have HB1 := Aside0.mk (HB0.out.trans (hb1.mono (by simp))); clear hb1)
  go_ret2
  exact ⟨rfl, HB1.out⟩
 | true =>
 rw [if_pos rfl] at h
 by_cases hsz : (a1.size : Int) > 16
 ·
  rw [if_pos hsz] at h
  cases h
  go_enter Try.func17, Try.ntmps17
  go_wp2_with (go_at_call 22; refine RR.out.mono ?_; rintro e w1 ⟨rfl, hb1⟩; have HB1 := Aside0.mk (HB0.out.trans (hb1.mono (by simp))); clear hb1)
  go_ret2
  exact ⟨rfl, HB1.out⟩
 rw [if_neg hsz] at h
 have hsz2 : decide (16 < (a1.size : Int)) = false := decide_eq_false hsz
 clear hsz
 obtain ⟨m, hm, h⟩ := Option.bind_eq_some_iff.mp h
 have MV := Aside0.mk (fun (W : World) (hb : Below w.heap.size w W) => tag_moved.calls A0_3 c0_3 l0_3 1 m W (H3.out W hb) HC3.out hm)
 clear hm
 have HH := Aside0.mk h
 clear h
 go_enter Try.func17, Try.ntmps17
 go_wp2_with (go_at_call 22; refine RR.out.mono ?_; rintro e w1 ⟨rfl, hb1⟩; have HB1 := Aside0.mk (HB0.out.trans (hb1.mono (by simp))); obtain ⟨z0, z1, z2, z3, y0, y1, y2, y3⟩ := CS.out w1 hb1; have hs1 := hb1.size; clear hb1)
 go_upto_region 4 with (fail)
 go_cut [23, 25, 28, 29, 30] from 19 to 31 (fun u23 u25 u28 u29 u30 wx => ∃ (A2 : Option Addr) (Am : Option Addr) (cm : Nat), u29 = .agg #[.slice A2 2 2, .slice A0_2 l0_2.length c0_2, .slice Am m.length cm] ∧ u30 = .int .i64 0 ∧ Aside0 (Kd.C (Kd.int .i64) wx A2 [a0_0, a0_1].length [a0_0, a0_1]) ∧ Aside0 (Kd.R (Kd.int .i64) 3 wx w.heap.size (fun _ => True) (.slice Am m.length cm) m) ∧ Aside0 (Below w.heap.size w wx))
 case first =>
  have hs1' := HB1.out.size
  go_region_held3 (fun W => W.cell? ⟨w.heap.size, 0, none⟩ = some (.int .i64 a0_0) ∧ W.cell? ⟨w.heap.size, 1, none⟩ = some (.int .i64 a0_1) ∧ W.cell? ⟨w.heap.size, 2, none⟩ = some (.slice A0_2 l0_2.length c0_2) ∧ W.cell? ⟨w.heap.size, 3, none⟩ = some (.slice A0_3 l0_3.length c0_3))
   (((try dsimp only); exact ⟨cell_keep (W := w1) (by repeat (first | exact HX.out | exact Below.refl _ _ | apply below_drew1 | (refine Below.alloc ?_ (by first | exact Nat.le_refl _ | exact HX.out.size) _))) z0, cell_keep (W := w1) (by repeat (first | exact HX.out | exact Below.refl _ _ | apply below_drew1 | (refine Below.alloc ?_ (by first | exact Nat.le_refl _ | exact HX.out.size) _))) z1, cell_keep (W := w1) (by repeat (first | exact HX.out | exact Below.refl _ _ | apply below_drew1 | (refine Below.alloc ?_ (by first | exact Nat.le_refl _ | exact HX.out.size) _))) z2, cell_keep (W := w1) (by repeat (first | exact HX.out | exact Below.refl _ _ | apply below_drew1 | (refine Below.alloc ?_ (by first | exact Nat.le_refl _ | exact HX.out.size) _))) z3⟩))
   (first | (go_at_call 23; refine (MV.out _ (by repeat (first | exact HB1.out | apply below_drew1 | apply below_alloc))).mono ?_; rintro e w2 ⟨v, rfl, hv, hb2⟩; obtain ⟨Am, cm, rfl⟩ := Kd.R_slice hv; have hx : Below w1.heap.size w1 w2 := (by first | exact ((Below.refl _ _).drew).trans hb2 | exact ((Below.refl _ _).alloc (Nat.le_refl _) _).drew.trans (hb2.mono (by simp))); have HV := Aside0.mk (Kd.R_lower (base' := w.heap.size) hv (by simp; omega)); have HB2 := Aside0.mk hb2; have HX := Aside0.mk hx; clear hv hb2 hx))
  all_goals (go_wp2_with fail; go_meet)
  ·
   exact ⟨_, _, _, rfl, rfl, ⟨Kd.C_below (Kd.C_drew (lit2 (X.alloc_at w1 _))) HB2.out⟩, HV, ⟨HB1.out.trans (HX.out.mono hs1')⟩⟩
  ·
   exact ⟨_, _, _, rfl, rfl, ⟨lit2 (X.alloc_at w2 _)⟩, ⟨Kd.R_alloc HV.out _⟩, ⟨(HB1.out.trans (HX.out.mono hs1')).alloc (by have := HX.out.size; omega) _⟩⟩
 case rest =>
  obtain ⟨A2, Am, cm, rfl, rfl, HC1, HM, HBx⟩ := hcut
  have ix0 := idx0 A2 A0_2 Am 2 l0_2.length m.length 2 c0_2 cm
  have ix1 := idx1 A2 A0_2 Am 2 l0_2.length m.length 2 c0_2 cm
  have ix2 := idx2 A2 A0_2 Am 2 l0_2.length m.length 2 c0_2 cm
  go_wp2
  go_loopw [6, 30] (fun s i wr => Aside0 (Below wc.heap.size wc wr) ∧ ∃ t, s = .string t ∧ ((i = .int .i64 0 ∧ Aside0 (tag_Encode.e0 k a0_0 a0_1 l0_2 m a1 t = some (r1, r2))) ∨ (i = .int .i64 1 ∧ Aside0 (tag_Encode.e1 k l0_2 m a1 t = some (r1, r2))) ∨ (i = .int .i64 2 ∧ Aside0 (tag_Encode.e2 k m a1 t = some (r1, r2))) ∨ (i = .int .i64 3 ∧ Aside0 (tag_Encode.e3 k a1 t = some (r1, r2)))))
   (fun _ i _ => 3 - (intOf i).toNat)
  case atStart => exact ⟨⟨Below.refl _ _⟩, _, rfl, .inl ⟨rfl, HH⟩⟩
  case round =>
   obtain ⟨HR, t, rfl, ⟨rfl, HE⟩ | ⟨rfl, HE⟩ | ⟨rfl, HE⟩ | ⟨rfl, HE⟩⟩ := hrel
   ·
    obtain ⟨⟨t1, e1⟩, hu1, hu2⟩ := Option.bind_eq_some_iff.mp HE.out
    have PK := Aside0.mk (pack_Pack.calls k A2 2 [a0_0, a0_1] t1 e1 wr (Kd.C_below HC1.out HR.out) (by simp) hu1)
    clear hu1
    dsimp only at hu2
    by_cases hz : e1 = 0
    ·
     rw [if_pos hz] at hu2
     subst hz
     obtain ⟨hcat, hu3⟩ := ite_some hu2
     have HU := Aside0.mk hu3
     clear hu2 hu3
     go_wp2_with (go_at_call 24; refine PK.out.mono ?_; rintro e w5 ⟨rfl, hb5⟩; have HR5 := Aside0.mk (below_step HR.out hb5); clear hb5)
     exact ⟨⟨HR5, _, rfl, .inr (.inl ⟨rfl, HU⟩)⟩, by simp [intOf]⟩
    ·
     rw [if_neg hz] at hu2
     have hz2 : (e1 != 0) = true := bne_iff_ne.mpr hz
     clear hz
     cases hu2
     go_wp2_with (go_at_call 24; refine PK.out.mono ?_; rintro e w5 ⟨rfl, hb5⟩; have HR5 := Aside0.mk (below_step HR.out hb5); clear hb5)
     go_ret2
     exact ⟨rfl, HBx.out.trans (HR5.out.mono HBx.out.size)⟩
   ·
    obtain ⟨⟨t1, e1⟩, hu1, hu2⟩ := Option.bind_eq_some_iff.mp HE.out
    have PK := Aside0.mk (pack_Pack.calls k A0_2 c0_2 l0_2 t1 e1 wr (H2.out wr (HBx.out.trans (HR.out.mono HBx.out.size))) HC2.out hu1)
    clear hu1
    dsimp only at hu2
    by_cases hz : e1 = 0
    ·
     rw [if_pos hz] at hu2
     subst hz
     obtain ⟨hcat, hu3⟩ := ite_some hu2
     have HU := Aside0.mk hu3
     clear hu2 hu3
     go_wp2_with (go_at_call 24; refine PK.out.mono ?_; rintro e w5 ⟨rfl, hb5⟩; have HR5 := Aside0.mk (below_step HR.out hb5); clear hb5)
     exact ⟨⟨HR5, _, rfl, .inr (.inr (.inl ⟨rfl, HU⟩))⟩, by simp [intOf]⟩
    ·
     rw [if_neg hz] at hu2
     have hz2 : (e1 != 0) = true := bne_iff_ne.mpr hz
     clear hz
     cases hu2
     go_wp2_with (go_at_call 24; refine PK.out.mono ?_; rintro e w5 ⟨rfl, hb5⟩; have HR5 := Aside0.mk (below_step HR.out hb5); clear hb5)
     go_ret2
     exact ⟨rfl, HBx.out.trans (HR5.out.mono HBx.out.size)⟩
   ·
    obtain ⟨⟨t1, e1⟩, hu1, hu2⟩ := Option.bind_eq_some_iff.mp HE.out
    have PK := Aside0.mk (pack_Pack.calls k Am cm m t1 e1 wr (Kd.C_below (Kd.R_reads' HM.out).2.2 HR.out) (Kd.R_reads' HM.out).2.1 hu1)
    clear hu1
    dsimp only at hu2
    by_cases hz : e1 = 0
    ·
     rw [if_pos hz] at hu2
     subst hz
     obtain ⟨hcat, hu3⟩ := ite_some hu2
     have HU := Aside0.mk hu3
     clear hu2 hu3
     go_wp2_with (go_at_call 24; refine PK.out.mono ?_; rintro e w5 ⟨rfl, hb5⟩; have HR5 := Aside0.mk (below_step HR.out hb5); clear hb5)
     exact ⟨⟨HR5, _, rfl, .inr (.inr (.inr ⟨rfl, HU⟩))⟩, by simp [intOf]⟩
    ·
     rw [if_neg hz] at hu2
     have hz2 : (e1 != 0) = true := bne_iff_ne.mpr hz
     clear hz
     cases hu2
     go_wp2_with (go_at_call 24; refine PK.out.mono ?_; rintro e w5 ⟨rfl, hb5⟩; have HR5 := Aside0.mk (below_step HR.out hb5); clear hb5)
     go_ret2
     exact ⟨rfl, HBx.out.trans (HR5.out.mono HBx.out.size)⟩
   ·
    obtain ⟨hcat, hc0⟩ := ite_some HE.out
    obtain ⟨c, hc1, hc2⟩ := Option.bind_eq_some_iff.mp hc0
    obtain ⟨b, hb1, hb2⟩ := Option.bind_eq_some_iff.mp hc2
    obtain ⟨hcat2, hb2⟩ := ite_some hb2
    clear hc0
    have CR := Aside0.mk (crc_Sum.calls k (t ++ a1) c wr hc1)
    have CB := Aside0.mk (fun (W : World) => crc_Bytes.calls c b W hb1)
    clear hc1 hc2 hb1
    cases hb2
    go_wp2_with (first
     | (go_at_call 26; refine CR.out.mono ?_; rintro e w5 ⟨rfl, hd⟩; obtain ⟨nd, rfl⟩ := hd)
     | (go_at_call 25; refine (CB.out _).mono ?_; rintro e w6 ⟨rfl, hb6⟩; have HR6 := Aside0.mk (below_step (pw_below_drewN HR.out nd) hb6); clear hb6))
    go_ret2
    exact ⟨rfl, HBx.out.trans (HR6.out.mono HBx.out.size)⟩

end Go.Proofs.Ytpbmcienlbdcbaa.PAll
