/- The walk of the tag's check of a record. -/
import Derived.Test.YtpbmcienlbdcbaaTagKeys
namespace Go.Proofs.Ytpbmcienlbdcbaa.X
open Go.RowKit Go.Proofs.YtpbmcienlbdcbaaW.PrintWords Go.Proofs.YtpbmcienlbdcbaaW.PrintLast

theorem alloc_at (w : World) (o : Obj) : (w.alloc o).heap[w.heap.size]? = some o := by
  show (w.heap.push o)[w.heap.size]? = some o
  exact Array.getElem?_push_size
theorem cells4 (w : World) (a b c d : Value) (t : TypeId) : ∀ W, Below (w.alloc (.cells #[a, b, c, d] t)).heap.size (w.alloc (.cells #[a, b, c, d] t)) W →
    W.cell? ⟨w.heap.size, 0, none⟩ = some a ∧ W.cell? ⟨w.heap.size, 1, none⟩ = some b ∧ W.cell? ⟨w.heap.size, 2, none⟩ = some c ∧ W.cell? ⟨w.heap.size, 3, none⟩ = some d ∧
    W.frozen? ⟨w.heap.size, 0, none⟩ = false ∧ W.frozen? ⟨w.heap.size, 1, none⟩ = false ∧ W.frozen? ⟨w.heap.size, 2, none⟩ = false ∧ W.frozen? ⟨w.heap.size, 3, none⟩ = false := fun W h => by
  have hk : W.heap[w.heap.size]? = some (.cells #[a, b, c, d] t (0, 0)) := (h.block _ (by simp)).trans (alloc_at _ _)
  exact ⟨(blk_cell hk 0).trans rfl, (blk_cell hk 1).trans rfl, (blk_cell hk 2).trans rfl, (blk_cell hk 3).trans rfl, blk_frozen hk 0, blk_frozen hk 1, blk_frozen hk 2, blk_frozen hk 3⟩

/-- May this be a record? -/
def rightV (kind seq : Int) (keys vals : List Int) : Bool :=
  if seq < 0 then false else if 1099511627776 < seq then false else if keysV keys = false then false else if vals.any oddV = true then false
  else if kind = 1 then ((vals.length : Int) == 0) else if kind = 2 then ((vals.length : Int) == (keys.length : Int)) else false

set_option maxHeartbeats 4000000 in
set_option maxRecDepth 100000 in
theorem right_any (CL : ∀ (A0 : Option Addr) (c0 : Nat) (l0 : List Int) (w : World), Kd.C (Kd.int .i64) w A0 l0.length l0 → l0.length ≤ c0 → l0.length ≤ 17592186044415 →
      Calls Try.prog 37 #[.slice A0 l0.length c0] w fun e w' => ∃ v0_ : Value, e = .returned (v0_) ∧ Kd.R (Kd.int .i64) 3 w' w.heap.size (fun _ => True) v0_ l0 ∧ Below w.heap.size w w')
    (kind seq : Int) (A : Option Addr) (c : Nat) (l : List Int) (B : Option Addr) (d : Nat) (m : List Int) (w : World) (hC : Kd.C (Kd.int .i64) w A l.length l) (hc : l.length ≤ c) (hn : l.length ≤ 17592186044415) (hD : Kd.C (Kd.int .i64) w B m.length m) :
    Calls Try.prog 22 #[.agg #[.int .i64 kind, .int .i64 seq, .slice A l.length c, .slice B m.length d]] w fun e w' => e = .returned (.bool (rightV kind seq l m)) ∧ Below w.heap.size w w' := by
  have hB0 := (Below.refl w.heap.size w).alloc (Nat.le_refl _) (.cells #[.int .i64 kind, .int .i64 seq, .slice A l.length c, .slice B m.length d] 27)
  have KY := Aside0.mk (keys_any CL A c l (w.alloc (.cells #[.int .i64 kind, .int .i64 seq, .slice A l.length c, .slice B m.length d] 27)) (Kd.C_alloc hC _) hc hn)
  have CT := Aside0.mk (fun (W : World) (hb : Below (w.alloc (.cells #[.int .i64 kind, .int .i64 seq, .slice A l.length c, .slice B m.length d] 27)).heap.size (w.alloc (.cells #[.int .i64 kind, .int .i64 seq, .slice A l.length c, .slice B m.length d] 27)) W) => oddV_contains B d m W (Kd.reads_of_C (enc := Value.int .i64) (d := (0 : Int)) (h1 := fun _ => rfl) (Kd.C_below (Kd.C_alloc hD _) hb)))
  have CS := Aside0.mk (cells4 w (.int .i64 kind) (.int .i64 seq) (.slice A l.length c) (.slice B m.length d) 27)
  have HB0 := Aside0.mk hB0
  clear hC hD CL hB0
  have hu := Try.underlying27
  by_cases h1 : seq < 0
  · have hv : rightV kind seq l m = false := by unfold rightV; rw [if_pos h1]
    rw [hv]
    clear hv
    go_enter Try.func22, Try.ntmps22
    go_wp2
    go_ret
    exact ⟨rfl, HB0.out⟩
  by_cases h2 : 1099511627776 < seq
  · have hv : rightV kind seq l m = false := by unfold rightV; rw [if_neg h1, if_pos h2]
    rw [hv]
    clear hv
    go_enter Try.func22, Try.ntmps22
    go_wp2
    go_ret
    exact ⟨rfl, HB0.out⟩
  obtain ⟨kv, hkv⟩ : ∃ b, keysV l = b := ⟨_, rfl⟩
  rw [hkv] at KY
  cases kv with
  | false =>
    have hv : rightV kind seq l m = false := by unfold rightV; rw [if_neg h1, if_neg h2, if_pos hkv]
    rw [hv]
    clear hv hkv
    go_enter Try.func22, Try.ntmps22
    go_wp2_with (go_at_call 35; refine KY.out.mono ?_; rintro e w1 ⟨rfl, hb1⟩; have HB1 := Aside0.mk hb1; obtain ⟨z0, z1, z2, z3, y0, y1, y2, y3⟩ := CS.out w1 hb1; clear hb1)
    go_ret
    exact ⟨rfl, HB0.out.trans (HB1.out.mono (by simp))⟩
  | true =>
  obtain ⟨ov, hov⟩ : ∃ b, m.any oddV = b := ⟨_, rfl⟩
  rw [hov] at CT
  cases ov with
  | true =>
    have hv : rightV kind seq l m = false := by unfold rightV; rw [if_neg h1, if_neg h2, if_neg (by rw [hkv]; simp), if_pos hov]
    rw [hv]
    clear hv hkv hov
    go_enter Try.func22, Try.ntmps22
    go_wp2_with (first
      | (go_at_call 35; refine KY.out.mono ?_; rintro e w1 ⟨rfl, hb1⟩; have HB1 := Aside0.mk hb1; obtain ⟨z0, z1, z2, z3, y0, y1, y2, y3⟩ := CS.out w1 hb1; clear hb1)
      | (go_at_call 36; refine (CT.out _ HB1.out).mono ?_; rintro e w2 ⟨rfl, rfl⟩))
    go_ret
    exact ⟨rfl, HB0.out.trans (HB1.out.mono (by simp))⟩
  | false =>
  by_cases k1 : kind = 1
  · subst k1
    have hv : rightV 1 seq l m = ((m.length : Int) == 0) := by unfold rightV; rw [if_neg h1, if_neg h2, if_neg (by rw [hkv]; simp), if_neg (by rw [hov]; simp), if_pos rfl]
    rw [hv]
    clear hv hkv hov
    go_enter Try.func22, Try.ntmps22
    go_wp2_with (first
      | (go_at_call 35; refine KY.out.mono ?_; rintro e w1 ⟨rfl, hb1⟩; have HB1 := Aside0.mk hb1; obtain ⟨z0, z1, z2, z3, y0, y1, y2, y3⟩ := CS.out w1 hb1; clear hb1)
      | (go_at_call 36; refine (CT.out _ HB1.out).mono ?_; rintro e w2 ⟨rfl, rfl⟩))
    go_ret
    exact ⟨rfl, HB0.out.trans (HB1.out.mono (by simp))⟩
  have b1 : (kind == 1) = false := beq_eq_false_iff_ne.mpr k1
  by_cases k2 : kind = 2
  · subst k2
    have hv : rightV 2 seq l m = ((m.length : Int) == (l.length : Int)) := by unfold rightV; rw [if_neg h1, if_neg h2, if_neg (by rw [hkv]; simp), if_neg (by rw [hov]; simp), if_neg k1, if_pos rfl]
    rw [hv]
    clear hv hkv hov k1
    go_enter Try.func22, Try.ntmps22
    go_wp2_with (first
      | (go_at_call 35; refine KY.out.mono ?_; rintro e w1 ⟨rfl, hb1⟩; have HB1 := Aside0.mk hb1; obtain ⟨z0, z1, z2, z3, y0, y1, y2, y3⟩ := CS.out w1 hb1; clear hb1)
      | (go_at_call 36; refine (CT.out _ HB1.out).mono ?_; rintro e w2 ⟨rfl, rfl⟩))
    go_ret
    exact ⟨rfl, HB0.out.trans (HB1.out.mono (by simp))⟩
  · have b2 : (kind == 2) = false := beq_eq_false_iff_ne.mpr k2
    have hv : rightV kind seq l m = false := by unfold rightV; rw [if_neg h1, if_neg h2, if_neg (by rw [hkv]; simp), if_neg (by rw [hov]; simp), if_neg k1, if_neg k2]
    rw [hv]
    clear hv hkv hov k1 k2
    go_enter Try.func22, Try.ntmps22
    go_wp2_with (first
      | (go_at_call 35; refine KY.out.mono ?_; rintro e w1 ⟨rfl, hb1⟩; have HB1 := Aside0.mk hb1; obtain ⟨z0, z1, z2, z3, y0, y1, y2, y3⟩ := CS.out w1 hb1; clear hb1)
      | (go_at_call 36; refine (CT.out _ HB1.out).mono ?_; rintro e w2 ⟨rfl, rfl⟩))
    go_ret
    exact ⟨rfl, HB0.out.trans (HB1.out.mono (by simp))⟩
end Go.Proofs.Ytpbmcienlbdcbaa.X
