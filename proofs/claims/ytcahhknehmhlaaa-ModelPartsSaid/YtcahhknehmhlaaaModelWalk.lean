/- The walks of the sectors' model: how many sectors a command is of, and whether it may be. -/
import Derived.Test.YtcahhknehmhlaaaWMore
import Derived.Test.YtcahhknehmhlaaaProg
import Derived.WalkKit
import Derived.BigQuiet
import Derived.Lib.Hide
import Derived.Laws.IdiomCopy
import Derived.Lib.SliceRun
import Derived.Lib.LazyBuf
namespace Go.Proofs.Ytcahhknehmhlaaa.X
open Go.RowKit Go.Proofs.YtcahhknehmhlaaaW.PrintWords Go.Proofs.YtcahhknehmhlaaaW.PrintLast

/-- More bytes than a sector has. -/
def big (s : ByteArray) : Bool := decide (16 < (s.size : Int))
theorem big_fn (s : ByteArray) (w : World) : Calls Try.prog 27 #[.string s] w fun e w' => e = .returned (.bool (big s)) ∧ w = w' := by
  go_enter Try.func27, Try.ntmps27
  go_wp2
  go_ret
  exact ⟨by unfold big; simp, rfl⟩
theorem any_succ (l : List ByteArray) (k : Nat) (h : k < l.length) : (l.take (k + 1)).any big = ((l.take k).any big || big (l.getD k ByteArray.empty)) := by
  rw [List.take_succ_eq_append_getElem h, List.any_append, List.getD_eq_getElem?_getD, List.getElem?_eq_getElem h]
  simp
theorem any_hit (l : List ByteArray) (k : Nat) (h : k < l.length) (hb : big (l.getD k ByteArray.empty) = true) : l.any big = true := by
  rw [List.getD_eq_getElem?_getD, List.getElem?_eq_getElem h] at hb
  exact List.any_eq_true.mpr ⟨_, List.getElem_mem h, hb⟩

set_option maxHeartbeats 2000000 in
set_option maxRecDepth 100000 in
theorem index_any (A : Option Addr) (c : Nat) (l : List ByteArray) (w : World) (h0 : ReadsOf Value.string ByteArray.empty w A l.length l) :
    Calls Try.prog 28 #[.slice A l.length c, .func (.func 27) #[] #[]] w fun e w' => ∃ r : Int, e = .returned (.int .i64 r) ∧ decide (r ≥ 0) = l.any big ∧ w = w' := by
  have H0 := Aside0.mk h0
  have hn := h0.2.1
  clear h0
  go_enter Try.func28, Try.ntmps28
  go_wp2
  go_loopw [5, 8] (fun _ i wr => ∃ k : Nat, k ≤ l.length ∧ i = .int .i64 k ∧ Aside0 ((l.take k).any big = false) ∧ w = wr)
    (fun _ i _ => l.length - (intOf i).toNat)
  case atStart => exact ⟨0, Nat.zero_le _, rfl, ⟨rfl⟩, rfl⟩
  case round =>
    obtain ⟨k, hk, rfl, HA, rfl⟩ := hrel
    by_cases hlt : k < l.length
    · obtain ⟨ad, rfl, hcs⟩ := H0.out.2.2 (by omega)
      have hcell := hcs k hlt
      clear hcs
      have HS := Aside0.mk (any_succ l k hlt)
      have HB := Aside0.mk (any_hit l k hlt)
      obtain ⟨x, hx⟩ : ∃ x, l.getD k ByteArray.empty = x := ⟨_, rfl⟩
      rw [hx] at hcell HS HB
      clear hx
      cases hb : big x with
      | true =>
        go_wp2_with (go_at_call 27; refine (big_fn _ _).mono ?_; rintro e w' ⟨rfl, rfl⟩)
        go_ret
        refine ⟨k, rfl, ?_, rfl⟩
        rw [HB.out hb]
        exact decide_eq_true (by omega)
      | false =>
        go_wp2_with (go_at_call 27; refine (big_fn _ _).mono ?_; rintro e w' ⟨rfl, rfl⟩)
        go_roundw
        case rel => exact ⟨k + 1, by omega, by go_num, ⟨by rw [HS.out, HA.out, hb]; rfl⟩, trivial⟩
        case measure => simp [intOf]; omega
    · obtain rfl : k = l.length := by omega
      go_wp2
      go_ret
      refine ⟨-1, rfl, ?_, rfl⟩
      have := HA.out
      rw [List.take_length] at this
      rw [this]
      rfl

theorem contains_any (A : Option Addr) (c : Nat) (l : List ByteArray) (w : World) (h0 : ReadsOf Value.string ByteArray.empty w A l.length l) :
    Calls Try.prog 26 #[.slice A l.length c, .func (.func 27) #[] #[]] w fun e w' => e = .returned (.bool (l.any big)) ∧ w = w' := by
  have H0 := Aside0.mk h0
  clear h0
  go_enter Try.func26, Try.ntmps26
  go_wp2_with (go_at_call 28; refine (index_any A c l _ H0.out).mono ?_; rintro e w' ⟨r, rfl, hr, rfl⟩)
  go_ret
  refine ⟨?_, rfl⟩
  rw [← hr]
  rfl

/-- Of how many sectors a command is, and whether its kind and its data may be. -/
def manyV (kind count : Int) (l : List ByteArray) : Int × Bool := if kind = 1 ∨ kind = 3 then (count, true) else if kind = 2 then ((l.length : Int), !l.any big) else (0, false)
set_option maxHeartbeats 2000000 in
set_option maxRecDepth 100000 in
theorem many_any (kind first count : Int) (A : Option Addr) (c : Nat) (l : List ByteArray) (w : World) (h0 : ReadsOf Value.string ByteArray.empty w A l.length l) :
    Calls Try.prog 23 #[.agg #[.int .i64 kind, .int .i64 first, .int .i64 count, .slice A l.length c]] w fun e w' => e = .returned (.tuple #[.int .i64 (manyV kind count l).1, .bool (manyV kind count l).2]) ∧ Below w.heap.size w w' := by
  have hb := (Below.refl w.heap.size w).alloc (Nat.le_refl _) (.cells #[.int .i64 kind, .int .i64 first, .int .i64 count, .slice A l.length c] 24)
  have H0 := Aside0.mk (h0.below hb)
  clear h0
  by_cases h1 : kind = 1
  · subst h1
    go_enter Try.func23, Try.ntmps23
    go_wp2
    go_ret2
    exact ⟨rfl, hb⟩
  by_cases h3 : kind = 3
  · subst h3
    go_enter Try.func23, Try.ntmps23
    go_wp2
    go_ret2
    exact ⟨rfl, hb⟩
  have b1 : (kind == 1) = false := beq_eq_false_iff_ne.mpr h1
  have b3 : (kind == 3) = false := beq_eq_false_iff_ne.mpr h3
  have hor : ¬ (kind = 1 ∨ kind = 3) := by omega
  by_cases h2 : kind = 2
  · subst h2
    clear hor h1 h3 b1 b3
    go_enter Try.func23, Try.ntmps23
    go_wp2
    have hu := Try.underlying24
    have hq : ∀ n, Calls Try.prog 26 #[.slice A l.length c, .func (.func 27) #[] #[]] ((w.alloc (.cells #[.int .i64 2, .int .i64 first, .int .i64 count, .slice A l.length c] 24)).drewN n) fun e w'' => e = .returned (.bool (l.any big)) ∧ ∃ m, w'' = (w.alloc (.cells #[.int .i64 2, .int .i64 first, .int .i64 count, .slice A l.length c] 24)).drewN m := fun n =>
      Calls.quiet_of_same ((contains_any A c l _ (H0.out.below (pw_below_drewN (Below.refl _ _) n))).mono (fun e w' h => ⟨h.1, h.2.symm⟩))
    go_quiet (first | (go_at_call 26; exact hq _) | exact hq _)
    go_wp2
    go_ret2
    exact ⟨rfl, pw_below_drewN hb _⟩
  · have b2 : (kind == 2) = false := beq_eq_false_iff_ne.mpr h2
    have hv : manyV kind count l = (0, false) := by unfold manyV; rw [if_neg hor, if_neg h2]
    rw [hv]
    clear hor h1 h2 h3 hv
    go_enter Try.func23, Try.ntmps23
    go_wp2
    go_ret2
    exact ⟨rfl, hb⟩

/-- The document's answer to whether a command may be, but for its data. -/
def rangeV (n first many : Int) : Int := if many < 1 then 1 else if first < 0 then 50 else if first > n then 50 else if many > wrap64 (n - first) then 50 else 0
def checkV (n kind first count : Int) (l : List ByteArray) : Int :=
  if kind = 4 then 0 else if kind = 2 then (if l.any big = true then 1 else rangeV n first (l.length : Int)) else if kind = 1 ∨ kind = 3 then rangeV n first count else 1
theorem range_small {n first many : Int} (h : many < 1) : rangeV n first many = 1 := by unfold rangeV; rw [if_pos h]
theorem range_low {n first many : Int} (h : ¬ many < 1) (h1 : first < 0) : rangeV n first many = 50 := by unfold rangeV; rw [if_neg h, if_pos h1]
theorem range_high {n first many : Int} (h : ¬ many < 1) (h1 : ¬ first < 0) (h2 : first > n) : rangeV n first many = 50 := by unfold rangeV; rw [if_neg h, if_neg h1, if_pos h2]
theorem range_far {n first many : Int} (h : ¬ many < 1) (h1 : ¬ first < 0) (h2 : ¬ first > n) (h3 : many > wrap64 (n - first)) : rangeV n first many = 50 := by unfold rangeV; rw [if_neg h, if_neg h1, if_neg h2, if_pos h3]
theorem range_ok {n first many : Int} (h : ¬ many < 1) (h1 : ¬ first < 0) (h2 : ¬ first > n) (h3 : ¬ many > wrap64 (n - first)) : rangeV n first many = 0 := by unfold rangeV; rw [if_neg h, if_neg h1, if_neg h2, if_neg h3]
/-- What the tail answers, part by part. -/
theorem range_cases (n first many : Int) : ∃ b1 b2 b3 b4 : Bool, decide (many < 1) = b1 ∧ decide (first < 0) = b2 ∧ decide (n < first) = b3 ∧ decide (wrap64 (n - first) < many) = b4 ∧ rangeV n first many = if b1 = true then 1 else if b2 = true then 50 else if b3 = true then 50 else if b4 = true then 50 else 0 := by
  refine ⟨_, _, _, _, rfl, rfl, rfl, rfl, ?_⟩
  unfold rangeV
  simp only [decide_eq_true_eq]
set_option maxHeartbeats 4000000 in
set_option maxRecDepth 100000 in
theorem check_any (n kind first count : Int) (A : Option Addr) (c : Nat) (l : List ByteArray) (w : World) (h0 : ReadsOf Value.string ByteArray.empty w A l.length l) :
    Calls Try.prog 12 #[.int .i64 n, .agg #[.int .i64 kind, .int .i64 first, .int .i64 count, .slice A l.length c]] w fun e w' => e = .returned (.int .i64 (checkV n kind first count l)) ∧ Below w.heap.size w w' := by
  have hb := (Below.refl w.heap.size w).alloc (Nat.le_refl _) (.cells #[.int .i64 kind, .int .i64 first, .int .i64 count, .slice A l.length c] 24)
  have H0 := Aside0.mk (h0.below hb)
  have hn := h0.2.1
  clear h0
  by_cases h4 : kind = 4
  · subst h4
    go_enter Try.func12, Try.ntmps12
    go_wp2
    go_ret
    exact ⟨rfl, hb⟩
  have b4 : (kind == 4) = false := beq_eq_false_iff_ne.mpr h4
  by_cases h2 : kind = 2
  · subst h2
    clear b4 h4
    obtain ⟨c1, c2, c3, c4, e1, e2, e3, e4, er⟩ := range_cases n first (l.length : Int)
    have ER := Aside0.mk er
    clear er
    go_enter Try.func12, Try.ntmps12
    go_wp2
    go_loopw [6] (fun i wr => ∃ k : Nat, k ≤ l.length ∧ i = .int .i64 k ∧ Aside0 ((l.take k).any big = false) ∧ w.alloc (.cells #[.int .i64 2, .int .i64 first, .int .i64 count, .slice A l.length c] 24) = wr)
      (fun i _ => l.length - (intOf i).toNat)
    case atStart => exact ⟨0, Nat.zero_le _, rfl, ⟨rfl⟩, rfl⟩
    case round =>
      obtain ⟨k, hk, rfl, HA, rfl⟩ := hrel
      by_cases hlt : k < l.length
      · obtain ⟨ad, rfl, hcs⟩ := H0.out.2.2 (by omega)
        have hcell := hcs k hlt
        clear hcs
        have HS := Aside0.mk (any_succ l k hlt)
        have HB := Aside0.mk (any_hit l k hlt)
        obtain ⟨x, hx⟩ : ∃ x, l.getD k ByteArray.empty = x := ⟨_, rfl⟩
        rw [hx] at hcell HS HB
        clear hx
        cases hbx : big x with
        | true =>
          have hsz : decide (16 < (x.size : Int)) = true := hbx
          go_wp2
          go_ret
          refine ⟨?_, hb⟩
          unfold checkV
          rw [if_neg (by omega), if_pos rfl, if_pos (HB.out hbx)]
          rfl
        | false =>
          have hsz : decide (16 < (x.size : Int)) = false := hbx
          go_wp2
          go_roundw
          case rel => exact ⟨k + 1, by omega, by go_num, ⟨by rw [HS.out, HA.out, hbx]; rfl⟩, trivial⟩
          case measure => simp [intOf]; omega
      · obtain rfl : k = l.length := by omega
        have HV := HA.out
        rw [List.take_length] at HV
        have HC := Aside0.mk (show checkV n 2 first count l = rangeV n first (l.length : Int) by
          unfold checkV
          rw [if_neg (by omega), if_pos rfl, if_neg (by rw [HV]; simp)])
        clear HV
        cases c1 <;> cases c2 <;> cases c3 <;> cases c4 <;>
          (go_wp2; go_ret; refine ⟨?_, hb⟩; rw [HC.out, ER.out]; rfl)
  have b2 : (kind == 2) = false := beq_eq_false_iff_ne.mpr h2
  by_cases h1 : kind = 1 ∨ kind = 3
  · obtain ⟨c1, c2, c3, c4, e1, e2, e3, e4, er⟩ := range_cases n first count
    have HC := Aside0.mk (show checkV n kind first count l = rangeV n first count by
      unfold checkV
      rw [if_neg h4, if_neg h2, if_pos h1])
    have ER := Aside0.mk er
    clear er h4 h2
    rcases h1 with rfl | rfl <;> cases c1 <;> cases c2 <;> cases c3 <;> cases c4 <;>
      (go_enter Try.func12, Try.ntmps12; go_wp2; go_ret; refine ⟨?_, hb⟩; rw [HC.out, ER.out]; rfl)
  · have b1 : (kind == 1) = false := beq_eq_false_iff_ne.mpr (by omega)
    have b3 : (kind == 3) = false := beq_eq_false_iff_ne.mpr (by omega)
    have HC := Aside0.mk (show checkV n kind first count l = 1 by
      unfold checkV
      rw [if_neg h4, if_neg h2, if_neg h1])
    clear h4 h2 h1
    go_enter Try.func12, Try.ntmps12
    go_wp2
    go_ret
    exact ⟨by rw [HC.out]; rfl, hb⟩

theorem many_13 {kind count : Int} {l : List ByteArray} (h : kind = 1 ∨ kind = 3) : manyV kind count l = (count, true) := by unfold manyV; rw [if_pos h]
theorem many_2 {count : Int} {l : List ByteArray} : manyV 2 count l = ((l.length : Int), !l.any big) := rfl
theorem many_no {kind count : Int} {l : List ByteArray} (h : ¬ (kind = 1 ∨ kind = 3)) (h2 : kind ≠ 2) : manyV kind count l = (0, false) := by unfold manyV; rw [if_neg h, if_neg h2]
theorem alloc_at (w : World) (o : Obj) : (w.alloc o).heap[w.heap.size]? = some o := by
  show (w.heap.push o)[w.heap.size]? = some o
  exact Array.getElem?_push_size
set_option maxHeartbeats 4000000 in
set_option maxRecDepth 100000 in
/-- The program's own answer is the same. -/
theorem checkp_any (n kind first count : Int) (A : Option Addr) (c : Nat) (l : List ByteArray) (w : World) (h0 : ReadsOf Value.string ByteArray.empty w A l.length l) :
    Calls Try.prog 11 #[.int .i64 n, .agg #[.int .i64 kind, .int .i64 first, .int .i64 count, .slice A l.length c]] w fun e w' => e = .returned (.int .i64 (checkV n kind first count l)) ∧ Below w.heap.size w w' := by
  have hb := (Below.refl w.heap.size w).alloc (Nat.le_refl _) (.cells #[.int .i64 kind, .int .i64 first, .int .i64 count, .slice A l.length c] 24)
  have HM := Aside0.mk (many_any kind first count A c l _ (h0.below hb))
  clear h0
  obtain ⟨mk, hmk⟩ : ∃ mk : Int, (manyV kind count l).1 = mk := ⟨_, rfl⟩
  obtain ⟨ok, hok⟩ : ∃ ok : Bool, (manyV kind count l).2 = ok := ⟨_, rfl⟩
  rw [hmk, hok] at HM
  have cells : ∀ W, Below (w.alloc (.cells #[.int .i64 kind, .int .i64 first, .int .i64 count, .slice A l.length c] 24)).heap.size (w.alloc (.cells #[.int .i64 kind, .int .i64 first, .int .i64 count, .slice A l.length c] 24)) W →
      W.cell? ⟨w.heap.size, 0, none⟩ = some (.int .i64 kind) ∧ W.cell? ⟨w.heap.size, 1, none⟩ = some (.int .i64 first) := fun W h => by
    have hk : W.heap[w.heap.size]? = some (.cells #[.int .i64 kind, .int .i64 first, .int .i64 count, .slice A l.length c] 24 (0, 0)) := (h.block _ (by simp)).trans (alloc_at _ _)
    exact ⟨(blk_cell hk 0).trans rfl, (blk_cell hk 1).trans rfl⟩
  have CS := Aside0.mk cells
  clear cells
  by_cases h4 : kind = 4
  · subst h4
    go_enter Try.func11, Try.ntmps11
    go_wp2_with (go_at_call 23; refine HM.out.mono ?_; rintro e w2 ⟨rfl, hb2⟩; obtain ⟨z0, z1⟩ := CS.out w2 hb2)
    go_ret
    exact ⟨rfl, hb.trans (hb2.mono (by simp))⟩
  have b4 : (kind == 4) = false := beq_eq_false_iff_ne.mpr h4
  have hv : checkV n kind first count l = if ok = true then rangeV n first mk else 1 := by
    unfold checkV
    rw [if_neg h4]
    by_cases h2 : kind = 2
    · subst h2
      rw [many_2] at hmk hok
      rw [if_pos rfl, ← hmk, ← hok]
      cases l.any big <;> rfl
    · rw [if_neg h2]
      by_cases h1 : kind = 1 ∨ kind = 3
      · rw [many_13 h1] at hmk hok
        rw [if_pos h1, ← hmk, ← hok]
        rfl
      · rw [many_no h1 h2] at hok
        rw [if_neg h1, ← hok]
        rfl
  have HV := Aside0.mk hv
  clear hv h4 hmk hok
  obtain ⟨c1, c2, c3, c4, e1, e2, e3, e4, er⟩ := range_cases n first mk
  have ER := Aside0.mk er
  clear er
  cases ok with
  | false =>
    go_enter Try.func11, Try.ntmps11
    go_wp2_with (go_at_call 23; refine HM.out.mono ?_; rintro e w2 ⟨rfl, hb2⟩; obtain ⟨z0, z1⟩ := CS.out w2 hb2)
    go_ret
    exact ⟨by rw [HV.out]; rfl, hb.trans (hb2.mono (by simp))⟩
  | true =>
    cases c1 <;> cases c2 <;> cases c3 <;> cases c4 <;>
      (go_enter Try.func11, Try.ntmps11
       go_wp2_with (go_at_call 23; refine HM.out.mono ?_; rintro e w2 ⟨rfl, hb2⟩; obtain ⟨z0, z1⟩ := CS.out w2 hb2)
       go_ret
       exact ⟨by rw [HV.out, ER.out]; rfl, hb.trans (hb2.mono (by simp))⟩)

/-- A list with others laid over it from place i on. -/
def setMany : List ByteArray → Nat → List ByteArray → List ByteArray
  | xs, _, [] => xs
  | xs, i, v :: r => setMany (xs.set i v) (i + 1) r
theorem setMany_length : ∀ (vs xs : List ByteArray) (i : Nat), (setMany xs i vs).length = xs.length
  | [], _, _ => rfl
  | v :: r, xs, i => by
    rw [setMany, setMany_length r, List.length_set]
theorem R_setMany {e : Nat} {base g n cap : Nat} {ok : Nat → Prop} : ∀ (vs : List ByteArray) (i : Nat) (W : World) (xs : List ByteArray), Kd.R Kd.string e W base ok (.slice (some ⟨g, 0, none⟩) n cap) xs →
    Kd.R Kd.string e (W.setCells g i (vs.map Value.string)) base ok (.slice (some ⟨g, 0, none⟩) n cap) (setMany xs i vs)
  | [], _, _, _, h => h
  | v :: r, i, _, _, h => R_setMany r (i + 1) _ _ (Kd.R_putn (enc := Value.string) h (i : Int) v)
end Go.Proofs.Ytcahhknehmhlaaa.X
