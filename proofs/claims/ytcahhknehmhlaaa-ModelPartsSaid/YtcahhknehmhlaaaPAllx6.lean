/- Written by a program of this session (wip/xp) out of the translation: functions in plain Lean, and proofs that the calls come to these. -/
import Derived.Test.YtcahhknehmhlaaaPAllx0
import Derived.Test.YtcahhknehmhlaaaPAllx5
import Derived.Test.YtcahhknehmhlaaaModelPart
namespace Go.Proofs.Ytcahhknehmhlaaa.PAll
open Go.RowKit Go.Proofs.YtcahhknehmhlaaaW.PrintWords Go.Proofs.YtcahhknehmhlaaaW.PrintLast Go.Proofs.YtcahhknehmhlaaaW.PrintMore
attribute [local go_sem] max2_int min2_int max_two min_two max_three min_three max_four min_four   -- for this text's walks alone
set_option linter.unusedVariables false
set_option linter.unusedSimpArgs false

-- XIMPORT ModelPart
-- XPART
/-! ### model_Part: function 19 -/
def model_Part.f (l0 : List ByteArray) (a1_0 : Int) (a1_1 : Int) (a1_2 : Int) (l1_3 : List ByteArray) (a2 : Int) : Option (List ByteArray) := if l0.length ≤ 8796093022207 then some (X.partV l0 a1_0 a1_1 a1_2 l1_3 a2) else none
set_option maxHeartbeats 8000000 in
set_option maxRecDepth 100000 in
theorem model_Part.calls (A0 : Option Addr) (c0 : Nat) (l0 : List ByteArray) (a1_0 : Int) (a1_1 : Int) (a1_2 : Int) (A1_3 : Option Addr) (c1_3 : Nat) (l1_3 : List ByteArray) (a2 : Int) (r : List ByteArray) (w : World) (hr0 : Kd.C Kd.string w A0 l0.length l0) (hc0 : l0.length ≤ c0) (hr1_3 : Kd.C Kd.string w A1_3 l1_3.length l1_3) (hc1_3 : l1_3.length ≤ c1_3) (h : model_Part.f l0 a1_0 a1_1 a1_2 l1_3 a2 = some r) :
  Calls Try.prog 19 #[.slice A0 l0.length c0, .agg #[.int .i64 a1_0, .int .i64 a1_1, .int .i64 a1_2, .slice A1_3 l1_3.length c1_3], .int .i64 a2] w fun e w' => ∃ v0_ : Value, e = .returned (v0_) ∧ Kd.R Kd.string 9 w' w.heap.size (fun _ => True) v0_ r ∧ Below w.heap.size w w' := by
 have hn : l0.length ≤ 8796093022207 := by
  unfold model_Part.f at h
  by_cases h2 : l0.length ≤ 8796093022207
  ·
   exact h2
  ·
   rw [if_neg h2] at h; cases h
 obtain rfl : X.partV l0 a1_0 a1_1 a1_2 l1_3 a2 = r := by
  unfold model_Part.f at h
  rw [if_pos hn] at h
  exact Option.some.inj h
 clear h
 have hB0 := (Below.refl w.heap.size w).alloc (Nat.le_refl _) (.cells #[.int .i64 a1_0, .int .i64 a1_1, .int .i64 a1_2, .slice A1_3 l1_3.length c1_3] 24)
 have CL := Aside0.mk (slices_Clone_string_string.calls A0 c0 l0 l0 (w.alloc (.cells #[.int .i64 a1_0, .int .i64 a1_1, .int .i64 a1_2, .slice A1_3 l1_3.length c1_3] 24)) (Kd.C_alloc hr0 _) hc0 (by unfold slices_Clone_string_string.f; rw [if_pos hn]))
 have R1 := Aside0.mk (Kd.C_alloc hr1_3 (.cells #[.int .i64 a1_0, .int .i64 a1_1, .int .i64 a1_2, .slice A1_3 l1_3.length c1_3] 24))
 have CK := Aside0.mk (fun (W : World) (hC : Kd.C Kd.string W A1_3 l1_3.length l1_3) => X.checkp_any (l0.length : Int) a1_0 a1_1 a1_2 A1_3 c1_3 l1_3 W (Kd.reads_of_C (enc := Value.string) (d := ByteArray.empty) (h1 := fun _ => rfl) hC))
 have MY := Aside0.mk (fun (W : World) (hC : Kd.C Kd.string W A1_3 l1_3.length l1_3) => X.many_any a1_0 a1_1 a1_2 A1_3 c1_3 l1_3 W (Kd.reads_of_C (enc := Value.string) (d := ByteArray.empty) (h1 := fun _ => rfl) hC))
 clear hr0 hr1_3
 have CS := Aside0.mk (X.cells4 w (.int .i64 a1_0) (.int .i64 a1_1) (.int .i64 a1_2) (.slice A1_3 l1_3.length c1_3) 24)
 by_cases hck : X.checkV (l0.length : Int) a1_0 a1_1 a1_2 l1_3 = 0
 ·
  have bck : (X.checkV (l0.length : Int) a1_0 a1_1 a1_2 l1_3 != 0) = false := bne_eq_false_iff_eq.mpr hck
  have HK := Aside0.mk hck
  clear hck
  by_cases h4 : a1_0 = 4
  ·
   subst h4
   have PV := Aside0.mk (X.part_4 l0 a1_1 a1_2 l1_3 a2)
   go_enter Try.func19, Try.ntmps19
   go_wp2_with (first
    | (go_at_call 25; refine CL.out.mono ?_; rintro e w2 ⟨v0, rfl, ho, hb⟩; obtain ⟨A2, c2, rfl⟩ := Kd.R_slice ho; obtain ⟨z0, z1, z2, z3, y0, y1, y2, y3⟩ := CS.out w2 hb)
    | (go_at_call 11; refine (CK.out w2 (Kd.C_below R1.out hb)).mono ?_; rintro e w3 ⟨rfl, hb3⟩; obtain ⟨z0, z1, z2, z3, y0, y1, y2, y3⟩ := CS.out w3 (hb.trans (hb3.mono hb.size))))
   go_ret
   rw [PV.out]
   exact ⟨_, rfl, Kd.R_lower (Kd.R_below ho hb3) (by simp), hB0.trans ((hb.trans (hb3.mono hb.size)).mono (by simp))⟩
  ·
   obtain ⟨mk, hmk, hmk1, hf0, hfm, hkind⟩ := X.part_facts (by omega) (by omega) h4 HK.out
   rw [hmk] at MY
   obtain ⟨m, hm⟩ : ∃ m, X.upTo a2 mk = m := ⟨_, rfl⟩
   obtain ⟨hm0, hm1⟩ := X.upTo_facts hm hmk1
   have b4 : (a1_0 == 4) = false := beq_eq_false_iff_ne.mpr h4
   have HM := Aside0.mk hm
   unfold X.upTo at hm
   clear hmk h4
   rcases hkind with ⟨rfl, rfl⟩ | ⟨rfl, rfl⟩ | ⟨rfl, rfl⟩
   ·
    have PV := Aside0.mk (X.part_2 (n := a2) HK.out)
    rw [HM.out] at PV
    obtain ⟨cs, hcs⟩ : ∃ cs, l1_3.take m.toNat = cs := ⟨_, rfl⟩
    have HCS := Aside0.mk hcs
    clear hcs
    rw [HCS.out] at PV
    have RD := Aside0.mk (fun (W : World) (hC : Kd.C Kd.string W A1_3 l1_3.length l1_3) => Kd.reads_of_C (enc := Value.string) (d := ByteArray.empty) (h1 := fun _ => rfl) hC)
    go_enter Try.func19, Try.ntmps19
    go_wp2_with (first
     | (go_at_call 25; refine CL.out.mono ?_; rintro e w2 ⟨v0, rfl, ho, hb⟩; obtain ⟨g, cap, rfl, hg, hcap⟩ := X.R_some ho (by omega); obtain ⟨z0, z1, z2, z3, y0, y1, y2, y3⟩ := CS.out w2 hb; have hc1 := X.cut1 g cap l0.length a1_1 hf0 (by omega) hcap info9; have hc2 := X.cut2 g a1_1.toNat (cap - a1_1.toNat) (l0.length - a1_1.toNat) m hm0 (by omega) (by omega) info9)
     | (go_at_call 11; refine (CK.out w2 (Kd.C_below R1.out hb)).mono ?_; rintro e w3 ⟨rfl, hb3⟩; obtain ⟨z0, z1, z2, z3, y0, y1, y2, y3⟩ := CS.out w3 (hb.trans (hb3.mono hb.size)))
     | (go_at_call 23; refine (MY.out w3 (Kd.C_below (Kd.C_below R1.out hb) hb3)).mono ?_; rintro e w4 ⟨rfl, hb4⟩; obtain ⟨z0, z1, z2, z3, y0, y1, y2, y3⟩ := CS.out w4 ((hb.trans (hb3.mono hb.size)).trans (hb4.mono (Nat.le_trans hb.size hb3.size))); have ho4 := Kd.R_below (Kd.R_below ho hb3) hb4; have hr := X.copy_run (c1 := cap - a1_1.toNat) (cc := c1_3) 3 m.toNat ho4 (RD.out w4 (Kd.C_below (Kd.C_below (Kd.C_below R1.out hb) hb3) hb4)) (by omega) (show a1_1.toNat + m.toNat ≤ l0.length by omega) (by omega) info9; rw [HCS.out] at hr))
    all_goals
     go_ret
     have hB4 := hB0.trans (((hb.trans (hb3.mono hb.size)).trans (hb4.mono (Nat.le_trans hb.size hb3.size))).mono (by simp))
     rw [PV.out]
     exact ⟨_, rfl, Kd.R_lower (X.R_setMany cs a1_1.toNat w4 l0 ho4) (by simp), below_setCells (by simp at hg; omega) _ _ _ hB4⟩
   ·
    have PV := Aside0.mk (X.part_1 (l := l0) (first := a1_1) (count := mk) (data := l1_3) (n := a2))
    go_enter Try.func19, Try.ntmps19
    go_wp2_with (first
     | (go_at_call 25; refine CL.out.mono ?_; rintro e w2 ⟨v0, rfl, ho, hb⟩; obtain ⟨g, cap, rfl, hg, hcap⟩ := X.R_some ho (by omega); obtain ⟨z0, z1, z2, z3, y0, y1, y2, y3⟩ := CS.out w2 hb; have hc1 := X.cut1 g cap l0.length a1_1 hf0 (by omega) hcap info9; have hc2 := X.cut2 g a1_1.toNat (cap - a1_1.toNat) (l0.length - a1_1.toNat) m hm0 (by omega) (by omega) info9)
     | (go_at_call 11; refine (CK.out w2 (Kd.C_below R1.out hb)).mono ?_; rintro e w3 ⟨rfl, hb3⟩; obtain ⟨z0, z1, z2, z3, y0, y1, y2, y3⟩ := CS.out w3 (hb.trans (hb3.mono hb.size)))
     | (go_at_call 23; refine (MY.out w3 (Kd.C_below (Kd.C_below R1.out hb) hb3)).mono ?_; rintro e w4 ⟨rfl, hb4⟩; obtain ⟨z0, z1, z2, z3, y0, y1, y2, y3⟩ := CS.out w4 ((hb.trans (hb3.mono hb.size)).trans (hb4.mono (Nat.le_trans hb.size hb3.size))); have ho4 := Kd.R_below (Kd.R_below ho hb3) hb4))
    all_goals
     go_ret
     have hB4 := hB0.trans (((hb.trans (hb3.mono hb.size)).trans (hb4.mono (Nat.le_trans hb.size hb3.size))).mono (by simp))
     rw [PV.out]
     exact ⟨_, rfl, Kd.R_lower ho4 (by simp), hB4⟩
   ·
    have PV := Aside0.mk (X.part_3 (n := a2) HK.out)
    rw [HM.out] at PV
    obtain ⟨cs, hcs⟩ : ∃ cs, List.replicate m.toNat ByteArray.empty = cs := ⟨_, rfl⟩
    have HCS := Aside0.mk hcs
    clear hcs
    rw [HCS.out] at PV
    go_enter Try.func19, Try.ntmps19
    go_wp2_with (first
     | (go_at_call 25; refine CL.out.mono ?_; rintro e w2 ⟨v0, rfl, ho, hb⟩; obtain ⟨g, cap, rfl, hg, hcap⟩ := X.R_some ho (by omega); obtain ⟨z0, z1, z2, z3, y0, y1, y2, y3⟩ := CS.out w2 hb; have hc1 := X.cut1 g cap l0.length a1_1 hf0 (by omega) hcap info9; have hc2 := X.cut2 g a1_1.toNat (cap - a1_1.toNat) (l0.length - a1_1.toNat) m hm0 (by omega) (by omega) info9)
     | (go_at_call 11; refine (CK.out w2 (Kd.C_below R1.out hb)).mono ?_; rintro e w3 ⟨rfl, hb3⟩; obtain ⟨z0, z1, z2, z3, y0, y1, y2, y3⟩ := CS.out w3 (hb.trans (hb3.mono hb.size)))
     | (go_at_call 23; refine (MY.out w3 (Kd.C_below (Kd.C_below R1.out hb) hb3)).mono ?_; rintro e w4 ⟨rfl, hb4⟩; obtain ⟨z0, z1, z2, z3, y0, y1, y2, y3⟩ := CS.out w4 ((hb.trans (hb3.mono hb.size)).trans (hb4.mono (Nat.le_trans hb.size hb3.size))); have ho4 := Kd.R_below (Kd.R_below ho hb3) hb4; have hr := X.clear_run (c1 := cap - a1_1.toNat) 0 m.toNat ho4 (show a1_1.toNat + m.toNat ≤ l0.length by omega); rw [HCS.out] at hr))
    all_goals
     go_ret
     have hB4 := hB0.trans (((hb.trans (hb3.mono hb.size)).trans (hb4.mono (Nat.le_trans hb.size hb3.size))).mono (by simp))
     rw [PV.out]
     exact ⟨_, rfl, Kd.R_lower (X.R_setMany cs a1_1.toNat w4 l0 ho4) (by simp), below_setCells (by simp at hg; omega) _ _ _ hB4⟩
 ·
  have bck : (X.checkV (l0.length : Int) a1_0 a1_1 a1_2 l1_3 != 0) = true := bne_iff_ne.mpr hck
  have PV := Aside0.mk (X.part_no hck (a2 := a2))
  clear hck
  go_enter Try.func19, Try.ntmps19
  go_wp2_with (first
   | (go_at_call 25; refine CL.out.mono ?_; rintro e w2 ⟨v0, rfl, ho, hb⟩; obtain ⟨A2, c2, rfl⟩ := Kd.R_slice ho; obtain ⟨z0, z1, z2, z3, y0, y1, y2, y3⟩ := CS.out w2 hb)
   | (go_at_call 11; refine (CK.out w2 (Kd.C_below R1.out hb)).mono ?_; rintro e w3 ⟨rfl, hb3⟩))
  go_ret
  rw [PV.out]
  exact ⟨_, rfl, Kd.R_lower (Kd.R_below ho hb3) (by simp), hB0.trans ((hb.trans (hb3.mono hb.size)).mono (by simp))⟩

end Go.Proofs.Ytcahhknehmhlaaa.PAll
