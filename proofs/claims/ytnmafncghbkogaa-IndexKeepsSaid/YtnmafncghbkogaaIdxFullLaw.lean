/- IndexFull over numbers and lists: as many can be put as there are slots, and each is found. -/
import Derived.Test.YtnmafncghbkogaaIdxPure
import Derived.Test.YtnmafncghbkogaaPAllx6
namespace Go.Proofs.Ytnmafncghbkogaa.X
open Go.RowKit Go.Proofs.Ytnmafncghbkogaa.PAll Go.Proofs.YtnmafncghbkogaaW.PrintWords Go.Proofs.YtnmafncghbkogaaW.PrintLast Go.Proofs.YtnmafncghbkogaaW.PrintMore
set_option linter.unusedVariables false
set_option linter.unusedSimpArgs false
theorem Ev.have_ {α β : Type} {o : Option α} {f : Nat → α → Option β} {a : α} {r : β} (h : o = some a) (k : Ev (fun n => f n a) r) : Ev (fun n => o.bind (f n)) r := Ev.bind (g := fun _ => o) (a := a) ⟨0, fun _ _ => h⟩ k
theorem put_f {l : List Sl} (h : l.length ≤ 100000) (p q : Int) : index_Put.f l p q = some (putV l p q) := by unfold index_Put.f; rw [if_pos h]
theorem drop_f {l : List Sl} (h : l.length ≤ 100000) (p q : Int) : index_Drop.f l p q = some (dropV l p q) := by unfold index_Drop.f; rw [if_pos h]
theorem find_f {l : List Sl} (h : l.length ≤ 100000) (p : Int) : index_Find.f l p = some (findV l p) := by unfold index_Find.f; rw [if_pos h]
theorem awake_ev : Ev (fun k => clinkerlaw09_awake.f k) true := Ev.of (k := 12) clinkerlaw09_awake.mono (by kernel_rfl)
/-- The fingerprint of the i-th. -/
def prI (zs : List Int) (i : Nat) : Int := if (i : Int) < (zs.length : Int) then rd zs i else i
theorem wf_u8 {a : Int} (h : (Lit.int .u8 a).wf = true) : 0 ≤ a ∧ a ≤ 255 := by
  simp [Lit.wf, IntKind.min, IntKind.max, IntKind.bits, IntKind.signed] at h
  omega
theorem rd_u8 {zs : List Int} (hz : ∀ x ∈ zs, (Lit.int .u8 x).wf = true) (i : Nat) (h : i < zs.length) : 0 ≤ rd zs i ∧ rd zs i ≤ 255 := by
  have h2 := hz _ (List.getElem_mem h)
  have : rd zs (i : Int) = zs[i] := by
    unfold rd
    rw [Int.toNat_natCast, List.getD_eq_getElem?_getD, List.getElem?_eq_getElem h]
    rfl
  rw [this]
  exact wf_u8 h2
theorem prI_pos {zs : List Int} (hz : ∀ x ∈ zs, (Lit.int .u8 x).wf = true) (i : Nat) : 0 ≤ prI zs i := by
  unfold prI
  split
  · rename_i h; exact (rd_u8 hz i (by omega)).1
  · omega
/-- The slots, when the first i have been put. -/
structure Full (zs : List Int) (n i : Nat) (l : List Sl) : Prop where
  len : l.length = n
  fit : Fit l
  many : l.countP isUsed = i
  has : ∀ j, j < i → 0 < l.countP (fun s => matchS (prI zs j) s && s.f2 == (j : Int))
theorem match_used {p : Int} {s : Sl} (h : matchS p s = true) : isUsed s = true := by
  unfold matchS at h
  unfold isUsed
  rw [Bool.and_eq_true] at h
  exact h.1
theorem Full.put {zs : List Int} {n i : Nat} {l : List Sl} (hz : ∀ x ∈ zs, (Lit.int .u8 x).wf = true) (h : Full zs n i l) (hi : i < n) : ∃ l', putV l (prI zs i) i = (l', 0) ∧ Full zs n (i + 1) l' := by
  obtain ⟨k, hk, hu, he, hf⟩ := put_spec (q := (i : Int)) h.fit (prI_pos hz i) (by rw [h.many, h.len]; exact hi)
  refine ⟨_, he, ⟨by rw [List.length_set]; exact h.len, hf, ?_, fun j hj => ?_⟩⟩
  · have := set_count l k hk ⟨1, prI zs i, i⟩ isUsed
    rw [if_neg (by rw [hu]; simp), if_pos (by rfl), h.many] at this
    exact this
  · have := set_count l k hk ⟨1, prI zs i, i⟩ (fun s => matchS (prI zs j) s && s.f2 == (j : Int))
    rw [if_neg (by
      intro h2
      rw [Bool.and_eq_true] at h2
      rw [match_used h2.1] at hu
      cases hu)] at this
    by_cases hji : j = i
    · subst hji
      rw [if_pos (by simp [matchS])] at this
      omega
    · have := h.has j (by omega)
      omega
/-- One of what is found. -/
theorem full_l2 {zs : List Int} {n : Nat} (hn : n ≤ 12) {l : List Sl} (e : Int) (hl : Full zs n n l) (i : Nat) (x16 : Bool) (ys : List Int) (hys : ys.length ≤ 12) (K : Ev (fun k => clinkerlaw09_IndexFull.l1 k zs true (n : Int) l e ((i + 1 : Nat) : Int)) true) (hi : i < n) :
    ∀ (d t : Nat) (x : Bool), ys.length - t = d → t ≤ ys.length → (x = true ∨ ∃ j, ∃ h : j < ys.length, t ≤ j ∧ ys[j] = (i : Int)) → Ev (fun k => clinkerlaw09_IndexFull.l2 k zs true (n : Int) l e (i : Int) x ys (t : Int)) true := by
  intro d
  induction d with
  | zero =>
    intro t x hd ht hx
    refine Ev.step (fun k => clinkerlaw09_IndexFull.l2.eq_2 ..) ?_
    have hxt : x = true := by
      rcases hx with h | ⟨j, hj, h1, h2⟩
      · exact h
      · omega
    refine Ev.ite_neg (by omega) (Ev.ite_pos hxt ?_)
    have hw : wrap64 ((i : Int) + 1) = ((i + 1 : Nat) : Int) := by rw [wrap64_in (by omega) (by omega)]; simp
    rw [hw]
    exact K
  | succ d ih =>
    intro t x hd ht hx
    refine Ev.step (fun k => clinkerlaw09_IndexFull.l2.eq_2 ..) ?_
    have hw : wrap64 ((t : Int) + 1) = ((t + 1 : Nat) : Int) := by rw [wrap64_in (by omega) (by omega)]; simp
    rw [hw]
    have hlt : t < ys.length := by omega
    refine Ev.ite_pos (by omega) ?_
    by_cases hxt : x = true
    · exact Ev.ite_pos hxt (ih (t + 1) true (by omega) (by omega) (.inl rfl))
    · refine Ev.ite_neg hxt (Ev.ite_pos (by omega) (ih (t + 1) _ (by omega) (by omega) ?_))
      rcases hx with h | ⟨j, hj, h1, h2⟩
      · exact absurd h hxt
      · by_cases hjt : j = t
        · subst hjt
          left
          have : rd ys (j : Int) = ys[j] := by
            unfold rd
            rw [Int.toNat_natCast, List.getD_eq_getElem?_getD, List.getElem?_eq_getElem hj]
            rfl
          rw [this, h2]
          simp
        · exact .inr ⟨j, hj, by omega, h2⟩
theorem full_l1 {zs : List Int} (hz : ∀ x ∈ zs, (Lit.int .u8 x).wf = true) {n : Nat} (hn : n ≤ 12) {l : List Sl} (hl : Full zs n n l) : ∀ (d i : Nat), n - i = d → i ≤ n → Ev (fun k => clinkerlaw09_IndexFull.l1 k zs true (n : Int) l 40 (i : Int)) true := by
  intro d
  induction d with
  | zero =>
    intro i hd hi
    refine Ev.step (fun k => clinkerlaw09_IndexFull.l1.eq_2 ..) ?_
    exact Ev.ite_neg (by omega) (Ev.ite_pos rfl (Ev.now true))
  | succ d ih =>
    intro i hd hi
    have hlt : i < n := by omega
    have hfind : Ev (fun k => clinkerlaw09_IndexFull.j2 k zs true (n : Int) l 40 (i : Int) (prI zs i)) true := by
      refine Ev.step (fun k => clinkerlaw09_IndexFull.j2.eq_2 ..) ?_
      refine Ev.have_ (find_f (by rw [hl.len]; omega) _) ?_
      have hc := find_count hl.fit (prI_pos hz i) (fun x => x == (i : Int))
      have hp := hl.has i hlt
      rw [← hc, List.countP_pos_iff] at hp
      obtain ⟨x, hx, he⟩ := hp
      obtain ⟨j, hj, hjx⟩ := List.mem_iff_getElem.1 hx
      have hlen : (findV l (prI zs i)).length ≤ 12 := by
        rw [find_len hl.fit (prI_pos hz i)]
        have := List.countP_le_length (p := matchS (prI zs i)) (l := l)
        rw [hl.len] at this
        omega
      exact full_l2 hn 40 hl i false _ hlen (ih (i + 1) (by omega) (by omega)) hlt _ 0 false rfl (Nat.zero_le _) (.inr ⟨j, hj, Nat.zero_le _, by rw [hjx]; exact beq_iff_eq.1 he⟩)
    refine Ev.step (fun k => clinkerlaw09_IndexFull.l1.eq_2 ..) ?_
    refine Ev.ite_pos (by omega) ?_
    unfold prI at hfind
    by_cases h : (i : Int) < (zs.length : Int)
    · rw [if_pos h] at hfind
      have := rd_u8 hz i (by omega)
      refine Ev.ite_pos h (Ev.ite_pos (by omega) ?_)
      rw [wrap64_in (by omega) (by omega)]
      exact hfind
    · rw [if_neg h] at hfind
      exact Ev.ite_neg h hfind
theorem full_l0 {zs : List Int} (hz : ∀ x ∈ zs, (Lit.int .u8 x).wf = true) {n : Nat} (hn : n ≤ 12) : ∀ (d i : Nat) (l : List Sl), n - i = d → i ≤ n → Full zs n i l → Ev (fun k => clinkerlaw09_IndexFull.l0 k zs true (n : Int) l (i : Int)) true := by
  intro d
  induction d with
  | zero =>
    intro i l hd hi hl
    obtain rfl : i = n := by omega
    refine Ev.step (fun k => clinkerlaw09_IndexFull.l0.eq_2 ..) ?_
    refine Ev.ite_neg (by omega) (Ev.have_ (put_f (by rw [hl.len]; omega) 5 99) ?_)
    rw [put_full (by omega) (by rw [hl.many, hl.len])]
    exact full_l1 hz hn hl i 0 (by omega) (Nat.zero_le _)
  | succ d ih =>
    intro i l hd hi hl
    obtain ⟨l', he, hl'⟩ := hl.put hz (by omega)
    have hw : wrap64 ((i : Int) + 1) = ((i + 1 : Nat) : Int) := by rw [wrap64_in (by omega) (by omega)]; simp
    have key : Ev (fun k => (index_Put.f l (prI zs i) i).bind fun bt => if bt.2 = 0 then (if (bt.1.length : Int) = (n : Int) then clinkerlaw09_IndexFull.l0 k zs true (n : Int) bt.1 (wrap64 ((i : Int) + 1)) else some false) else some false) true := by
      refine Ev.have_ (put_f (by rw [hl.len]; omega) _ _) ?_
      rw [he]
      refine Ev.ite_pos rfl (Ev.ite_pos (by rw [hl'.len]) ?_)
      rw [hw]
      exact ih (i + 1) l' (by omega) (by omega) hl'
    refine Ev.step (fun k => clinkerlaw09_IndexFull.l0.eq_2 ..) ?_
    refine Ev.ite_pos (by omega) ?_
    unfold prI at key
    by_cases h : (i : Int) < (zs.length : Int)
    · rw [if_pos h] at key
      have := rd_u8 hz i (by omega)
      refine Ev.ite_pos h (Ev.ite_pos (by omega) ?_)
      rw [wrap64_in (by omega) (by omega)]
      exact key
    · rw [if_neg h] at key
      exact Ev.ite_neg h key
theorem law_IndexFull : clinkerlaw09_IndexFull.Pure := by
  intro zs a1 _ _ hz h1
  have ha : 0 ≤ a1 ∧ a1 ≤ 255 := wf_u8 h1
  refine Ev.rounds (g := fun k => clinkerlaw09_IndexFull.f k zs a1) ?_
  have hw : wrap64 a1 = a1 := wrap64_in (by omega) (by omega)
  obtain ⟨n, hn⟩ : ∃ n : Nat, Int.tmod a1 13 = (n : Int) ∧ n ≤ 12 := ⟨(Int.tmod a1 13).toNat, by rw [Int.tmod_eq_emod_of_nonneg ha.1]; omega, by rw [Int.tmod_eq_emod_of_nonneg ha.1]; omega⟩
  show Ev (fun k => (clinkerlaw09_awake.f k).bind _) true
  refine Ev.bind awake_ev (Ev.ite_pos rfl ?_)
  simp only [hw, hn.1]
  refine Ev.ite_pos (by omega) (Ev.ite_pos (by simp; omega) ?_)
  rw [Int.toNat_natCast]
  exact full_l0 hz hn.2 n 0 _ (by omega) (Nat.zero_le _) ⟨List.length_replicate, fit_zeros n, by rw [List.countP_replicate]; rfl, fun j hj => absurd hj (Nat.not_lt_zero _)⟩
end Go.Proofs.Ytnmafncghbkogaa.X
