/- The chip's functions, each by one statement. -/
import Derived.Test.YtfolonajajideaaChipSame
namespace Go.Proofs.Ytfolonajajideaa.X
open Go.RowKit Go.Proofs.Ytfolonajajideaa.PAll Go.Proofs.YtfolonajajideaaW.PrintWords Go.Proofs.YtfolonajajideaaW.PrintLast Go.Proofs.YtfolonajajideaaW.PrintMore
set_option linter.unusedVariables false
set_option linter.unusedSimpArgs false
theorem progV_off (l : List Blk) (br : Bool) (ops b p : Int) (d t : ByteArray) (kind : Int) (fd ft : ByteArray) : progV l br true ops b p d t kind fd ft = (l, br, true, ops, 52) := rfl
theorem progV_no {l : List Blk} {br : Bool} {ops b p : Int} {d t : ByteArray} {kind : Int} {fd ft : ByteArray} (h : mayP l b p kind = false) : progV l br false ops b p d t kind fd ft = (l, true, false, ops, 1) := by
  unfold progV; rw [if_neg (by simp), if_neg (by simp [h])]
theorem progV_ok {l : List Blk} {br : Bool} {ops b p : Int} {d t : ByteArray} {kind : Int} {fd ft : ByteArray} (h : mayP l b p kind = true) :
    progV l br false ops b p d t kind fd ft = (l.set b.toNat (progB (rdB l b) p kind d t fd ft), br, decide (kind = 2), wrap64 (ops + 1), if kind = 0 then 0 else if kind = 1 then 53 else 52) := by
  unfold progV; rw [if_neg (by simp), if_pos h]
theorem eraV_off (l : List Blk) (br : Bool) (ops b kind n : Int) : eraV l br true ops b kind n = (l, br, true, ops, 52) := rfl
theorem eraV_no {l : List Blk} {br : Bool} {ops b kind n : Int} (h : mayB l b kind = false) : eraV l br false ops b kind n = (l, true, false, ops, 1) := by
  unfold eraV; rw [if_neg (by simp), if_neg (by simp [h])]
theorem eraV_fail {l : List Blk} {br : Bool} {ops b kind n : Int} (h : mayB l b kind = true) (hk : kind = 1) : eraV l br false ops b kind n = (l.set b.toNat ⟨(rdB l b).f0, (rdB l b).f1, (rdB l b).f2, true⟩, br, false, wrap64 (ops + 1), 53) := by
  unfold eraV; rw [if_neg (by simp), if_pos h, if_pos hk]
theorem eraV_done {l : List Blk} {br : Bool} {ops b kind n : Int} (h : mayB l b kind = true) (hk : kind ≠ 1) : eraV l br false ops b kind n = (l.set b.toNat (eraB (rdB l b) kind n), br, decide (kind = 2), wrap64 (ops + 1), if kind = 2 then 52 else 0) := by
  unfold eraV; rw [if_neg (by simp), if_pos h, if_neg hk]
theorem may_page {l : List Blk} {b kind : Int} (hs : sm l = true) (hm : mayB l b kind = true) : (rdB l b).f0.length ≤ 9223372036854775807 := by
  obtain ⟨_, hall⟩ := sm_iff.1 hs
  have := hall _ (List.mem_of_getElem? (rdB_at (may_iff.1 hm).1 (may_iff.1 hm).2.1))
  omega
theorem may_kind {l : List Blk} {b kind : Int} (hm : mayB l b kind = true) (hk : kind ≠ 1) : kind = 0 ∨ kind = 2 := by
  obtain ⟨_, _, h2, h3, _⟩ := may_iff.1 hm
  omega
section
variable (A : Option Addr) (c : Nat) (l : List Blk) (br off : Bool) (ops b p : Int) (pw : Bool) (pd pt : ByteArray) (kind : Int) (fd ft : ByteArray) (n : Int) (P : Nat → Prop) (w : World)
theorem rprog_any (hC : Kd.C kB w A l.length l) (hc : l.length ≤ c) (hs : sm l = true) :
    Calls Try.prog 26 #[.agg #[.slice A l.length c, .bool br, .bool off, .int .i64 ops], .int .i64 b, .int .i64 p, .agg #[.bool pw, .string pd, .string pt], .agg #[.int .i64 kind, .string fd, .string ft, .int .i64 n]] w fun e1 w' =>
      Out P w w' e1 (progV l br off ops b p pd pt kind fd ft) := by
  cases off with
  | true => rw [progV_off]; exact rprog_off A c l br ops b p pw pd pt kind fd ft n P w hC hc hs
  | false =>
    cases hp : mayP l b p kind with
    | false => rw [progV_no hp]; exact rprog_broken A c l br ops b p pw pd pt kind fd ft n P w hC hc hs hp
    | true => rw [progV_ok hp]; exact rprog_ok A c l br ops b p pw pd pt kind fd ft n P w hC hc hs hp
theorem rera_any (hC : Kd.C kB w A l.length l) (hc : l.length ≤ c) (hs : sm l = true) :
    Calls Try.prog 25 #[.agg #[.slice A l.length c, .bool br, .bool off, .int .i64 ops], .int .i64 b, .agg #[.int .i64 kind, .string fd, .string ft, .int .i64 n]] w fun e1 w' =>
      Out P w w' e1 (eraV l br off ops b kind n) := by
  cases off with
  | true => rw [eraV_off]; exact rera_off A c l br ops b kind fd ft n P w hC hc hs
  | false =>
    cases hm : mayB l b kind with
    | false => rw [eraV_no hm]; exact rera_broken A c l br ops b kind fd ft n P w hC hc hs hm
    | true =>
      by_cases hk : kind = 1
      · rw [eraV_fail hm hk]; exact rera_fail A c l br ops b kind fd ft n P w hC hc hs hm hk
      · rw [eraV_done hm hk]; exact rera_done A c l br ops b kind fd ft n P w hC hc hs hm (may_kind hm hk)
end
/-- What the print wants of a chip that is handed back. -/
theorem Out.V {P : Nat → Prop} {w w' : World} {e : Ending} {r1 : List Blk} {r2 r3 : Bool} {r4 r5 : Int} (h : Out P w w' e (r1, r2, r3, r4, r5)) :
    ∃ v0_ : Value, e = .returned (.tuple #[.agg #[v0_, .bool r2, .bool r3, .int .i64 r4], .int .i64 r5]) ∧ Kd.V k62 62 w' w.heap.size (fun k_ => (P k_ ∨ w.heap.size ≤ k_)) v0_ r1 ∧ Below w.heap.size w w' := by
  obtain ⟨A, c, rfl, hc, hF, hb⟩ := h
  exact ⟨_, rfl, ⟨A, c, rfl, hc, hF⟩, hb⟩
theorem Out.V0 {w w' : World} {e : Ending} {r1 : List Blk} {r2 r3 : Bool} {r4 r5 : Int} (h : Out (fun _ => False) w w' e (r1, r2, r3, r4, r5)) :
    ∃ v0_ : Value, e = .returned (.tuple #[.agg #[v0_, .bool r2, .bool r3, .int .i64 r4], .int .i64 r5]) ∧ Kd.V k62 62 w' w.heap.size (fun k_ => (w.heap.size ≤ k_)) v0_ r1 ∧ Below w.heap.size w w' := by
  obtain ⟨A, c, rfl, hc, hF, hb⟩ := h
  exact ⟨_, rfl, ⟨A, c, rfl, hc, Kd.F_mono hF (fun k hk => hk.resolve_left id)⟩, hb⟩
theorem S_V {W : World} {base : Nat} {A : Option Addr} {c : Nat} {l : List Blk} (h : Kd.S kB 62 W base (fun _ => True) (.slice A l.length c) l) (hc : l.length ≤ c) : Kd.V k62 62 W base (fun k_ => (base ≤ k_)) (.slice A l.length c) l :=
  ⟨A, c, rfl, hc, Kd.F_mono (Kd.S_F (Kd.S_bound h)) (fun _ hk => hk.2.1)⟩
/-- Two rows of blocks: the same? -/
def pgB (p q : Pg) : Bool := decide (p.f0 = q.f0) && (decide (p.f1 = q.f1) && decide (p.f2 = q.f2))
def listB {α : Type} (f : α → α → Bool) : List α → List α → Bool
  | [], [] => true
  | x :: l, y :: m => f x y && listB f l m
  | _, _ => false
def blB (x y : Blk) : Bool := listB pgB x.f0 y.f0 && (decide (x.f1 = y.f1) && (decide (x.f2 = y.f2) && decide (x.f3 = y.f3)))
theorem pgB_eq (p q : Pg) : pgB p q = true ↔ p = q := by
  cases p; cases q
  simp [pgB]
theorem listB_eq {α : Type} {f : α → α → Bool} (hf : ∀ x y, f x y = true ↔ x = y) : ∀ l m : List α, listB f l m = true ↔ l = m
  | [], [] => by simp [listB]
  | [], y :: m => by simp [listB]
  | x :: l, [] => by simp [listB]
  | x :: l, y :: m => by simp [listB, hf, listB_eq hf l m]
theorem blB_eq (x y : Blk) : blB x y = true ↔ x = y := by
  cases x; cases y
  simp [blB, listB_eq pgB_eq]
theorem blsB_eq (l m : List Blk) : listB blB l m = true ↔ l = m := listB_eq blB_eq l m
end Go.Proofs.Ytfolonajajideaa.X
