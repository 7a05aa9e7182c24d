/- The walk of the program's count of a block's wanted pages: a set of places that the call makes and keeps to itself. -/
import Derived.Test.YtfolonajajideaaWZ
import Derived.Test.YtfolonajajideaaProg
import Derived.WalkKit
import Derived.Maps.OwnSet
import Derived.Maps.AppendAt
import Derived.Lib.Hide
import Derived.Outline
namespace Go.Proofs.Ytfolonajajideaa.X
open Go.RowKit Go.Maps Go.Proofs.YtfolonajajideaaW.PrintWords Go.Proofs.YtfolonajajideaaW.PrintLast

def placeV (b p : Int) : Int := if b < 0 then -1 else if b ≥ 32 then -1 else if p < 0 then -1 else if p ≥ 16 then -1 else b * 16 + p
theorem ret_int {k : IntKind} {a b : Int} (h : a = b) : Ending.returned (.int k a) = .returned (.int k b) := by rw [h]
set_option maxHeartbeats 400000 in
theorem place_any (b p : Int) (w : World) : Calls Try.prog 29 #[.int .i64 b, .int .i64 p] w fun e w' => e = .returned (.int .i64 (placeV b p)) ∧ w = w' := by
  go_enter Try.func29, Try.ntmps29
  go_wp2
  all_goals
    go_ret
    refine ⟨ret_int (by unfold placeV; (repeat' split) <;> omega), rfl⟩

/-- Is it a place in block b? -/
def inB (b x : Int) : Bool := decide (0 ≤ b) && decide (b < 32) && decide (16 * b ≤ x) && decide (x < 16 * b + 16)
theorem inB_iff {b x : Int} : inB b x = true ↔ 0 ≤ b ∧ b < 32 ∧ 16 * b ≤ x ∧ x < 16 * b + 16 := by
  unfold inB
  simp [and_assoc]
theorem place_yes {b x : Int} (h : inB b x = true) : placeV b (x % 16) = x := by
  rw [inB_iff] at h
  unfold placeV
  rw [if_neg (by omega), if_neg (by omega), if_neg (by omega), if_neg (by omega)]
  omega
theorem place_no {b x : Int} (h : inB b x = false) (h0 : 0 ≤ x) : placeV b (x % 16) ≠ x := by
  intro e
  have h2 : ¬ (inB b x = true) := by rw [h]; simp
  rw [inB_iff] at h2
  unfold placeV at e
  split at e
  · omega
  · split at e
    · omega
    · split at e
      · omega
      · split at e
        · omega
        · exact h2 (by omega)
/-- What the first k of a list put into the set. -/
def hitsTo (b : Int) (zs : List Int) (k : Nat) : List Int := (zs.take k).filter (inB b)
theorem hitsTo_zero (b : Int) (zs : List Int) : hitsTo b zs 0 = [] := by simp [hitsTo]
theorem hitsTo_all (b : Int) (zs : List Int) : hitsTo b zs zs.length = zs.filter (inB b) := by simp [hitsTo]
theorem hitsTo_succ (b : Int) (zs : List Int) (k : Nat) (h : k < zs.length) : hitsTo b zs (k + 1) = if inB b (zs[k]?.getD 0) = true then hitsTo b zs k ++ [zs[k]?.getD 0] else hitsTo b zs k := by
  unfold hitsTo
  rw [List.take_succ_eq_append_getElem h, List.filter_append, List.getElem?_eq_getElem h]
  simp only [Option.getD_some]
  by_cases h2 : inB b zs[k] = true
  · rw [if_pos h2]; simp [h2]
  · rw [if_neg h2]; simp [h2]
theorem hitsTo_length (b : Int) (zs : List Int) (k : Nat) : (hitsTo b zs k).length ≤ zs.length := by
  unfold hitsTo
  have h1 := List.length_filter_le (inB b) (zs.take k)
  rw [List.length_take] at h1
  omega
def lits (l : List Int) : List Lit := l.map (Lit.int .i64)
def setD (l : List Int) : DataW Unit := setOf (.agg []) (lits l)
theorem setD_snoc (l : List Int) (x : Int) : setD (l ++ [x]) = (setD l).put (.int .i64 x) (.agg []) := by
  unfold setD lits
  rw [List.map_append, List.map_cons, List.map_nil, setOf_snoc]
theorem keyed_int : Keyed Try.prog 3 := int_keyed Try.underlying3

/-- What is in the set behind q of the two lists. -/
def accQ (b : Int) (l0 l1 : List Int) : Nat → List Int
  | 0 => []
  | 1 => l0.filter (inB b)
  | _ => l0.filter (inB b) ++ l1.filter (inB b)
theorem wf_small {x : Int} (h0 : 0 ≤ x) (h1 : x < 512) : (Lit.int .i64 x).wf = true := by
  simp [Lit.wf, IntKind.min, IntKind.max, IntKind.bits, IntKind.signed]
  omega

set_option maxHeartbeats 2000000 in
set_option maxRecDepth 100000 in
theorem count_any (A0 A1 : Option Addr) (c0 c1 : Nat) (l0 l1 : List Int) (b : Int) (w : World) (h0 : ReadsInt w .i64 A0 l0.length l0) (h1 : ReadsInt w .i64 A1 l1.length l1)
    (n0 : l0.length ≤ 17592186044416) (n1 : l1.length ≤ 17592186044416) :
    Calls Try.prog 13 #[.agg #[.slice A0 l0.length c0, .slice A1 l1.length c1], .int .i64 b] w fun e w' => e = .returned (.int .i64 (Maps.size (setD (l0.filter (inB b) ++ l1.filter (inB b))))) ∧ Below w.heap.size w w' := by
  have hmm := @run_makeMap Try.prog
  have i0 : ∀ w, (Instr.index 66 (.agg #[.slice A0 l0.length c0, .slice A1 l1.length c1]) (.int .i64 0)).run Try.prog w = .ok (.slice A0 l0.length c0) w := fun _ => by kernel_rfl
  have i1 : ∀ w, (Instr.index 66 (.agg #[.slice A0 l0.length c0, .slice A1 l1.length c1]) (.int .i64 1)).run Try.prog w = .ok (.slice A1 l1.length c1) w := fun _ => by kernel_rfl
  have H0 := Aside0.mk h0
  have H1 := Aside0.mk h1
  clear h0 h1
  go_enter Try.func13, Try.ntmps13
  go_wp2
  go_loopw [17] (fun q wr => ∃ k : Nat, k ≤ 2 ∧ q = .int .i64 k ∧ wr.ownsMap Try.prog 3 (unitElem (H := Unit)) (w.heap.size + 1) (accQ b l0 l1 k).length (setD (accQ b l0 l1 k)) ∧ Below w.heap.size w wr ∧ w.heap.size + 2 ≤ wr.heap.size)
    (fun q _ => 2 - (intOf q).toNat)
  case atStart => exact ⟨0, by omega, rfl, by have h := World.ownsMap_made (w.alloc (.cells #[.slice A0 l0.length c0, .slice A1 l1.length c1] 24)) Try.prog 3 (unitElem (H := Unit)); rw [World.size_alloc] at h; exact h, ((Below.refl _ w).alloc (Nat.le_refl _) _).alloc (by simp) _, by simp⟩
  case round =>
    obtain ⟨q, hq, rfl, hown, hnx, hsz⟩ := hrel
    obtain ⟨wo, rfl⟩ : ∃ wo : World, wo = wr := ⟨_, rfl⟩
    by_cases hq2 : q < 2
    · obtain ⟨A, zs, c, ix, HZ, nz, HA⟩ : ∃ (A : Option Addr) (zs : List Int) (c : Nat), (∀ w, (Instr.index 66 (.agg #[.slice A0 l0.length c0, .slice A1 l1.length c1]) (.int .i64 (q : Int))).run Try.prog w = .ok (.slice A zs.length c) w) ∧ Aside0 (ReadsInt w .i64 A zs.length zs) ∧ zs.length ≤ 17592186044416 ∧ Aside0 (accQ b l0 l1 (q + 1) = accQ b l0 l1 q ++ zs.filter (inB b) ∧ (accQ b l0 l1 q).length ≤ 17592186044416) := by
        have hfl := List.length_filter_le (inB b) l0
        have : q = 0 ∨ q = 1 := by omega
        rcases this with rfl | rfl
        · exact ⟨A0, l0, c0, i0, H0, n0, ⟨rfl, by simp [accQ]⟩⟩
        · exact ⟨A1, l1, c1, i1, H1, n1, ⟨rfl, by simp only [accQ]; omega⟩⟩
      clear i0 i1
      have hqb : decide ((q : Int) < 2) = true := decide_eq_true (by omega)
      go_wp2
      go_loopw [22] (fun i wr2 => ∃ k : Nat, k ≤ zs.length ∧ i = .int .i64 k ∧ wr2.ownsMap Try.prog 3 (unitElem (H := Unit)) (w.heap.size + 1) (accQ b l0 l1 q ++ hitsTo b zs k).length (setD (accQ b l0 l1 q ++ hitsTo b zs k)) ∧ Below w.heap.size w wr2 ∧ w.heap.size + 2 ≤ wr2.heap.size)
        (fun i _ => zs.length - (intOf i).toNat)
      case atStart => exact ⟨0, Nat.zero_le _, rfl, by rw [hitsTo_zero, List.append_nil]; exact hown, hnx, hsz⟩
      case round =>
        obtain ⟨k, hk, rfl, hown2, hnx2, hsz2⟩ := hrel
        have hlen := hitsTo_length b zs k
        have HL := HA.out.2
        by_cases hlt : k < zs.length
        · obtain ⟨ad, rfl, hcs⟩ := HZ.out.2.2 (by omega)
          have hcell : wr.cell? (ad.add k) = some (.int .i64 (zs[k]?.getD 0)) := by
            have h := hcs k hlt
            rw [(hnx2.cell (World.block_lt_of_cell? w _ h)), h, List.getD_eq_getElem?_getD]
          have HS := Aside0.mk (hitsTo_succ b zs k hlt)
          clear hcs
          obtain ⟨x, hx⟩ : ∃ x, zs[k]?.getD 0 = x := ⟨_, rfl⟩
          rw [hx] at hcell HS
          clear hx
          by_cases h0 : 0 ≤ x
          · cases hin : inB b x with
            | true =>
              have HI := Aside0.mk hin
              have hp := place_yes hin
              have hr := inB_iff.mp hin
              clear hin
              have hkey : keyOf Try.prog 3 (.int .i64 x) = some (.int .i64 x) := keyOf_int_mk Try.underlying3 (wf_small h0 (by omega))
              have hb1 : (placeV b (x % 16) == x) = true := beq_iff_eq.mpr hp
              clear hp
              go_wp2_with (first
                | (go_at_call 29; refine (place_any _ _ _).mono ?_; rintro e w' ⟨rfl, rfl⟩)
                | (at_mapUpdate; refine wpList_mapUpdate_own _ rfl _ _ _ 65 rfl 3 68 keyed_int Try.underlying65 (unitElem (H := Unit)) (w.heap.size + 1) _ _ rfl hown2 (by unfold maxLen; rw [List.length_append]; omega) _ _ _ rfl rfl hkey _ [] unitElem_mk ?_; intro w1 hown1 hgrow1))
              have s1 := hgrow1.size
              go_roundw
              case rel =>
                refine ⟨k + 1, by omega, by go_num, ?_, hnx2.grown hgrow1 (by omega) (fun j hj => by cases hj; omega), by omega⟩
                rw [HS.out, if_pos HI.out, ← List.append_assoc, setD_snoc, List.length_append (bs := [x])]
                exact hown1
              case measure => simp [intOf]; omega
            | false =>
              have HI := Aside0.mk hin
              have hb1 : (placeV b (x % 16) == x) = false := beq_eq_false_iff_ne.mpr (place_no hin h0)
              clear hin
              go_wp2_with (go_at_call 29; refine (place_any _ _ _).mono ?_; rintro e w' ⟨rfl, rfl⟩)
              go_roundw
              case rel =>
                refine ⟨k + 1, by omega, by go_num, ?_, hnx2, hsz2⟩
                rw [HS.out, if_neg (by rw [HI.out]; simp)]
                exact hown2
              case measure => simp [intOf]; omega
          · have HI := Aside0.mk (show ¬ inB b x = true by rw [inB_iff]; omega)
            have hb2 : decide (0 ≤ x) = false := decide_eq_false h0
            cases he : (placeV b (Int.tmod x 16) == x) with
            | true =>
              go_wp2_with (go_at_call 29; refine (place_any _ _ _).mono ?_; rintro e w' ⟨rfl, rfl⟩)
              go_roundw
              case rel =>
                refine ⟨k + 1, by omega, by go_num, ?_, hnx2, hsz2⟩
                rw [HS.out, if_neg HI.out]
                exact hown2
              case measure => simp [intOf]; omega
            | false =>
              go_wp2_with (go_at_call 29; refine (place_any _ _ _).mono ?_; rintro e w' ⟨rfl, rfl⟩)
              go_roundw
              case rel =>
                refine ⟨k + 1, by omega, by go_num, ?_, hnx2, hsz2⟩
                rw [HS.out, if_neg HI.out]
                exact hown2
              case measure => simp [intOf]; omega
        · obtain rfl : k = zs.length := by omega
          rw [hitsTo_all, ← HA.out.1] at hown2
          go_wp2
          go_roundw
          case rel => exact ⟨q + 1, by omega, by go_num, hown2, hnx2, hsz2⟩
          case measure => simp [intOf]; omega
    · obtain rfl : q = 2 := by omega
      go_wp2_with (at_len; refine wpList_len_own _ rfl _ 65 rfl 3 68 Try.underlying65 _ (w.heap.size + 1) _ _ rfl hown ?_)
      go_ret
      exact ⟨rfl, hnx⟩

/-! How many different places: the set's size. -/
theorem nodup_le : ∀ (l m : List Int), l.Nodup → (∀ x ∈ l, x ∈ m) → l.length ≤ m.length
  | [], _, _, _ => Nat.zero_le _
  | x :: l, m, hn, hs => by
    rw [List.nodup_cons] at hn
    have hx := hs x (by simp)
    have ih := nodup_le l (m.erase x) hn.2 (fun y hy => (List.mem_erase_of_ne (fun e => hn.1 (by rw [← e]; exact hy))).mpr (hs y (by simp [hy])))
    rw [List.length_erase_of_mem hx] at ih
    have : 0 < m.length := List.length_pos_of_mem hx
    rw [List.length_cons]
    omega
def dedup (acc l : List Int) : List Int := l.foldl (fun a x => if a.contains x then a else a ++ [x]) acc
theorem dedup_mem (x : Int) : ∀ (l acc : List Int), x ∈ dedup acc l ↔ x ∈ acc ∨ x ∈ l
  | [], acc => by simp [dedup]
  | y :: l, acc => by
    have h : dedup acc (y :: l) = dedup (if acc.contains y then acc else acc ++ [y]) l := rfl
    rw [h, dedup_mem x l]
    by_cases hy : acc.contains y = true
    · rw [if_pos hy]
      rw [List.contains_iff_mem] at hy
      constructor
      · rintro (h | h)
        · exact .inl h
        · exact .inr (by simp [h])
      · rintro (h | h)
        · exact .inl h
        · rcases List.mem_cons.mp h with rfl | h
          · exact .inl hy
          · exact .inr h
    · rw [if_neg hy]
      simp only [List.mem_append, List.mem_cons, List.not_mem_nil, or_false]
      constructor
      · rintro ((h | h) | h)
        · exact .inl h
        · exact .inr (.inl h)
        · exact .inr (.inr h)
      · rintro (h | h | h)
        · exact .inl (.inl h)
        · exact .inl (.inr h)
        · exact .inr h
theorem dedup_nodup : ∀ (l acc : List Int), acc.Nodup → (dedup acc l).Nodup
  | [], _, h => h
  | y :: l, acc, h => by
    have e : dedup acc (y :: l) = dedup (if acc.contains y then acc else acc ++ [y]) l := rfl
    rw [e]
    refine dedup_nodup l _ ?_
    by_cases hy : acc.contains y = true
    · rw [if_pos hy]; exact h
    · rw [if_neg hy]
      rw [List.contains_iff_mem] at hy
      rw [List.nodup_append]
      refine ⟨h, by simp, ?_⟩
      intro a ha b hb e
      simp only [List.mem_singleton] at hb
      exact hy (by rw [← hb, ← e]; exact ha)
theorem any_lits (x : Int) (acc : List Int) : (lits acc).any (fun y => y.sameKey (.int .i64 x)) = acc.contains x := by
  induction acc with
  | nil => rfl
  | cons y acc ih =>
    have h : lits (y :: acc) = .int .i64 y :: lits acc := rfl
    rw [h, List.any_cons, ih, List.contains_cons]
    congr 1
    rw [Bool.eq_iff_iff, beq_iff_eq]
    constructor
    · intro h2
      have := WideAt.sameKey_eq h2
      injection this with _ e
      exact e.symm
    · rintro rfl
      exact WideAt.sameKey_self trivial
theorem fold_lits : ∀ (l acc : List Int), (lits l).foldl addKey (lits acc) = lits (dedup acc l)
  | [], _ => rfl
  | x :: l, acc => by
    have h : lits (x :: l) = .int .i64 x :: lits l := rfl
    have e : dedup acc (x :: l) = dedup (if acc.contains x then acc else acc ++ [x]) l := rfl
    rw [h, List.foldl_cons, e, ← fold_lits l]
    congr 1
    unfold addKey
    rw [any_lits]
    split
    · rfl
    · simp [lits]
/-- The wanted pages of block b. -/
def cntB (l0 l1 : List Int) (b : Int) : Nat := ((List.range 16).filter fun (p : Nat) => (decide (0 ≤ b) && decide (b < 32)) && (l0.contains (16 * b + (p : Int)) || l1.contains (16 * b + (p : Int)))).length
theorem size_cnt (l0 l1 : List Int) (b : Int) : Maps.size (setD (l0.filter (inB b) ++ l1.filter (inB b))) = cntB l0 l1 b := by
  have h1 : Maps.size (setD (l0.filter (inB b) ++ l1.filter (inB b))) = (dedup [] (l0.filter (inB b) ++ l1.filter (inB b))).length := by
    unfold setD
    rw [size_setOf _ _ (fun x hx => by
      obtain ⟨y, _, rfl⟩ := List.mem_map.mp hx
      trivial)]
    have := fold_lits (l0.filter (inB b) ++ l1.filter (inB b)) []
    rw [show lits [] = [] from rfl] at this
    rw [this]
    exact List.length_map _
  have hd := dedup_nodup (l0.filter (inB b) ++ l1.filter (inB b)) [] (by simp)
  have hm := fun x => dedup_mem x (l0.filter (inB b) ++ l1.filter (inB b)) []
  rw [h1]
  have h2 : cntB l0 l1 b = (((List.range 16).filter fun (p : Nat) => (decide (0 ≤ b) && decide (b < 32)) && (l0.contains (16 * b + (p : Int)) || l1.contains (16 * b + (p : Int)))).map fun (p : Nat) => 16 * b + (p : Int)).length := by
    rw [List.length_map]; rfl
  rw [h2]
  apply Nat.le_antisymm
  · refine nodup_le _ _ hd (fun x hx => ?_)
    have := (hm x).mp hx
    simp only [List.not_mem_nil, false_or, List.mem_append, List.mem_filter] at this
    have hin : inB b x = true := by rcases this with h | h <;> exact h.2
    have hr := inB_iff.mp hin
    rw [List.mem_map]
    refine ⟨(x - 16 * b).toNat, ?_, by omega⟩
    rw [List.mem_filter]
    refine ⟨by rw [List.mem_range]; omega, ?_⟩
    have e : 16 * b + (((x - 16 * b).toNat : Nat) : Int) = x := by omega
    rw [e]
    simp only [Bool.and_eq_true, Bool.or_eq_true, decide_eq_true_iff, List.contains_iff_mem]
    refine ⟨⟨hr.1, hr.2.1⟩, ?_⟩
    rcases this with h | h
    · exact .inl h.1
    · exact .inr h.1
  · refine nodup_le _ _ ?_ (fun x hx => ?_)
    · have hnr : (List.range 16).Nodup := List.nodup_range
      have hnf := hnr.filter (fun (p : Nat) => (decide (0 ≤ b) && decide (b < 32)) && (l0.contains (16 * b + (p : Int)) || l1.contains (16 * b + (p : Int))))
      show List.Pairwise (fun x1 x2 => x1 ≠ x2) _
      rw [List.pairwise_map]
      exact hnf.imp (fun h e => h (by omega))
    · obtain ⟨p, hp, rfl⟩ := List.mem_map.mp hx
      rw [List.mem_filter, List.mem_range] at hp
      simp only [Bool.and_eq_true, Bool.or_eq_true, decide_eq_true_iff, List.contains_iff_mem] at hp
      rw [hm]
      right
      simp only [List.mem_append, List.mem_filter]
      have hin : inB b (16 * b + (p : Int)) = true := by rw [inB_iff]; omega
      rcases hp.2.2 with h | h
      · exact .inl ⟨h, hin⟩
      · exact .inr ⟨h, hin⟩

end Go.Proofs.Ytfolonajajideaa.X
