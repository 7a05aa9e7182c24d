/- slices.Clone of blocks and of pages: the elements are only read. -/
import Derived.Test.YthjjngfbpoapnaaChip
import Derived.Lib.SliceRun
import Derived.Lib.LazyBuf
namespace Go.Proofs.Ythjjngfbpoapnaa.X
open Go.RowKit Go.Proofs.Ythjjngfbpoapnaa.PAll Go.Proofs.YthjjngfbpoapnaaW.PrintWords Go.Proofs.YthjjngfbpoapnaaW.PrintLast Go.Proofs.YthjjngfbpoapnaaW.PrintMore
set_option linter.unusedVariables false
set_option linter.unusedSimpArgs false

set_option maxHeartbeats 2000000 in
set_option maxRecDepth 100000 in
theorem cloneBlk (A0 : Option Addr) (c0 : Nat) (l0 : List Blk) (P : Nat → Prop) (w0 w : World) (hF : Kd.F kB w0 P A0 l0.length l0) (hb0 : Below w0.heap.size w0 w) (hl : l0.length ≤ 1000000) :
    Calls Try.prog 34 #[.slice A0 l0.length c0] w fun e w' => ∃ (v : Value) (rows : List (List Value)), e = .returned v ∧ (Kd.raw 4).R 44 w' w.heap.size (fun _ => True) v rows ∧ rows.length = l0.length ∧
      (∀ (j : Nat) (x : Blk) (c : List Value), l0[j]? = some x → rows[j]? = some c → Kd.FK kB w0 (fun k => P k ∧ k < w0.heap.size) x c) ∧ Below w.heap.size w w' := by
  have hC := Kd.F_now hF
  obtain ⟨news, hnl, hnr, hnf⟩ := Kd.reads_raw (Kd.F_rows (Kd.F_bound hF)) (fun y c hk => ⟨kB.K_len (Kd.FK_now hk), kB.K_one (Kd.FK_now hk)⟩)
  have HR0 : Aside0 (Kd.C (Kd.raw 4) w A0 l0.length news) := Aside0.mk (Kd.C_below (d := Kd.raw 4) hnr hb0)
  have HNF := Aside0.mk hnf
  have HNL := Aside0.mk hnl
  have HB := Aside0.mk (Below.refl w.heap.size w)
  clear hnf hnr hnl hb0 hF
  cases A0 with
  | none =>
    obtain rfl : l0 = [] := by
      have h1 := hC.2.2
      rcases l0 with _ | ⟨x, l⟩
      · rfl
      · obtain ⟨ad, h2, _⟩ := h1 (by simp)
        cases h2
    have hnil : ∀ W, (binOp .eql 25 (.slice none 0 c0) (.slice none 0 0)).run Try.prog W = .ok (.bool true) W := fun W => Go.Lib.run_eql_slice_nil W 25 44 _ _ _ 0 0 Try.underlying25
    clear hC
    go_enter Try.func34, Try.ntmps34
    go_wp2
    go_ret
    exact ⟨_, [], rfl, Kd.R_nil _ _ _ _ _, rfl, fun j x c hj => by simp at hj, HB.out⟩
  | some ad =>
    have hnil : ∀ W, (binOp .eql 25 (.slice (some ad) l0.length c0) (.slice none 0 0)).run Try.prog W = .ok (.bool false) W := fun W => Go.Lib.run_eql_slice_nil W 25 44 _ _ _ 0 0 Try.underlying25
    clear hC
    go_enter Try.func34, Try.ntmps34
    go_wp2_with (first
      | ((with_reducible refine gate_dst (N := 5) rfl ?_); refine Kd.R_lit (Kd.raw 4) _ 44 ?hg (N := 5) ?hd (xs := ([] : List (List Value))) (inner := []) (ok := fun _ => True) (okp := fun _ => True) ?hr ?hp (fun _ hk => hk) trivial (Below.refl _ _) (Nat.le_refl _) (by simp) ?_; (case hd => rfl); (case hg => rfl); (case hr => first | (go_simp; done) | (go_simp; rfl)); (case hp => exact (Reps.none _ _)); intro v117 w11 ho12 hb hg_ hnew_; clear hg_ hnew_; have n0_ := Aside0.mk (Kd.R_lower ho12 (below_size HB.out)); have n1_ := Aside0.mk (below_step HB.out hb); clear HB; have HO118 := n0_; have HB := n1_; clear n0_ n1_ ho12 hb)
      | ((with_reducible refine gate_builtin (b := .append) (xs := #[.tmp 5, .tmp 6]) rfl ?_); at_builtin; refine Kd.R_append_rows (Kd.raw 4) (w0 := w) w.heap.size rfl (.tmp 5) (.tmp 6) 25 44 (.agg #[(.slice none 0 0), (.int .i64 0), (.int .i64 0), (.bool false)]) 48 rfl Try.underlying25 xinfo44 rfl (by decide) (by omega) _ ([] : List (List Value)) news _ _ _ (fun _ => True) (fun _ => False) rfl rfl ?aO ?aR (fun _ _ h => h) (fun _ h => h.elim) ?aF ?aB ?aS ?aL ?_; (case aR => exact (Kd.C_below HR0.out HB.out)); (case aB => exact HB.out); (case aF => exact (fun _ _ => trivial)); (case aO => exact HO118.out); (case aS => exact (below_size HB.out)); (case aL => simp; omega); intro v138 w8 ho hb hg hat))
    go_ret
    exact ⟨_, news, rfl, ho, HNL.out, HNF.out, hb⟩

set_option maxHeartbeats 2000000 in
set_option maxRecDepth 100000 in
theorem clonePg (A0 : Option Addr) (c0 : Nat) (l0 : List Pg) (P : Nat → Prop) (w0 w : World) (hF : Kd.F kP w0 P A0 l0.length l0) (hb0 : Below w0.heap.size w0 w) (hl : l0.length ≤ 1000000) :
    Calls Try.prog 35 #[.slice A0 l0.length c0] w fun e w' => ∃ (v : Value) (rows : List (List Value)), e = .returned v ∧ (Kd.raw 3).R 46 w' w.heap.size (fun _ => True) v rows ∧ rows.length = l0.length ∧
      (∀ (j : Nat) (x : Pg) (c : List Value), l0[j]? = some x → rows[j]? = some c → Kd.FK kP w0 (fun k => P k ∧ k < w0.heap.size) x c) ∧ Below w.heap.size w w' := by
  have hC := Kd.F_now hF
  obtain ⟨news, hnl, hnr, hnf⟩ := Kd.reads_raw (Kd.F_rows (Kd.F_bound hF)) (fun y c hk => ⟨kP.K_len (Kd.FK_now hk), kP.K_one (Kd.FK_now hk)⟩)
  have HR0 : Aside0 (Kd.C (Kd.raw 3) w A0 l0.length news) := Aside0.mk (Kd.C_below (d := Kd.raw 3) hnr hb0)
  have HNF := Aside0.mk hnf
  have HNL := Aside0.mk hnl
  have HB := Aside0.mk (Below.refl w.heap.size w)
  clear hnf hnr hnl hb0 hF
  cases A0 with
  | none =>
    obtain rfl : l0 = [] := by
      have h1 := hC.2.2
      rcases l0 with _ | ⟨x, l⟩
      · rfl
      · obtain ⟨ad, h2, _⟩ := h1 (by simp)
        cases h2
    have hnil : ∀ W, (binOp .eql 42 (.slice none 0 c0) (.slice none 0 0)).run Try.prog W = .ok (.bool true) W := fun W => Go.Lib.run_eql_slice_nil W 42 46 _ _ _ 0 0 Try.underlying42
    clear hC
    go_enter Try.func35, Try.ntmps35
    go_wp2
    go_ret
    exact ⟨_, [], rfl, Kd.R_nil _ _ _ _ _, rfl, fun j x c hj => by simp at hj, HB.out⟩
  | some ad =>
    have hnil : ∀ W, (binOp .eql 42 (.slice (some ad) l0.length c0) (.slice none 0 0)).run Try.prog W = .ok (.bool false) W := fun W => Go.Lib.run_eql_slice_nil W 42 46 _ _ _ 0 0 Try.underlying42
    clear hC
    go_enter Try.func35, Try.ntmps35
    go_wp2_with (first
      | ((with_reducible refine gate_dst (N := 5) rfl ?_); refine Kd.R_lit (Kd.raw 3) _ 46 ?hg (N := 5) ?hd (xs := ([] : List (List Value))) (inner := []) (ok := fun _ => True) (okp := fun _ => True) ?hr ?hp (fun _ hk => hk) trivial (Below.refl _ _) (Nat.le_refl _) (by simp) ?_; (case hd => rfl); (case hg => rfl); (case hr => first | (go_simp; done) | (go_simp; rfl)); (case hp => exact (Reps.none _ _)); intro v117 w11 ho12 hb hg_ hnew_; clear hg_ hnew_; have n0_ := Aside0.mk (Kd.R_lower ho12 (below_size HB.out)); have n1_ := Aside0.mk (below_step HB.out hb); clear HB; have HO118 := n0_; have HB := n1_; clear n0_ n1_ ho12 hb)
      | ((with_reducible refine gate_builtin (b := .append) (xs := #[.tmp 5, .tmp 6]) rfl ?_); at_builtin; refine Kd.R_append_rows (Kd.raw 3) (w0 := w) w.heap.size rfl (.tmp 5) (.tmp 6) 42 46 (.agg #[(.bool false), (.string ⟨#[]⟩), (.string ⟨#[]⟩)]) 40 rfl Try.underlying42 xinfo46 rfl (by decide) (by omega) _ ([] : List (List Value)) news _ _ _ (fun _ => True) (fun _ => False) rfl rfl ?aO ?aR (fun _ _ h => h) (fun _ h => h.elim) ?aF ?aB ?aS ?aL ?_; (case aR => exact (Kd.C_below HR0.out HB.out)); (case aB => exact HB.out); (case aF => exact (fun _ _ => trivial)); (case aO => exact HO118.out); (case aS => exact (below_size HB.out)); (case aL => simp; omega); intro v138 w8 ho hb hg hat))
    go_ret
    exact ⟨_, news, rfl, ho, HNL.out, HNF.out, hb⟩
end Go.Proofs.Ythjjngfbpoapnaa.X
