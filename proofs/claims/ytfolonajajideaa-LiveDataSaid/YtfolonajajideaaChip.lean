/- A chip's memory: a row of blocks of which one may be written into, with its pages. -/
import Derived.Test.YtfolonajajideaaPAllx0
import Derived.Test.YtfolonajajideaaBase
namespace Go.Proofs.Ytfolonajajideaa.X
open Go.RowKit Go.Proofs.Ytfolonajajideaa.PAll Go.Proofs.YtfolonajajideaaW.PrintWords Go.Proofs.YtfolonajajideaaW.PrintLast Go.Proofs.YtfolonajajideaaW.PrintMore
set_option linter.unusedVariables false
set_option linter.unusedSimpArgs false
abbrev Pg := S54
abbrev Blk := S62
abbrev kP : Kd Pg := k54
abbrev kB : Kd Blk := k62
abbrev zP : Pg := z54
abbrev zB : Blk := z62
theorem xinfo62 : (Try.prog.info? 62).map (fun i => (i.zero, i.size, i.bytes)) = some (some (.agg #[(.slice none 0 0), (.int .i64 0), (.int .i64 0), (.bool false)]), 4, 48) := by kernel_rfl
theorem xinfo54 : (Try.prog.info? 54).map (fun i => (i.zero, i.size, i.bytes)) = some (some (.agg #[(.bool false), (.string ⟨#[]⟩), (.string ⟨#[]⟩)]), 3, 40) := by kernel_rfl
theorem kP_heap : Kd.Heap kP := Kd.heap_iso _ (Kd.heap_pair Kd.heap_bool (Kd.heap_pair Kd.heap_string Kd.heap_string))
theorem kB_heap : Kd.Heap kB := Kd.heap_iso _ (Kd.heap_pair (Kd.heap_slice 54 kP_heap) (Kd.heap_pair (Kd.heap_int .i64) (Kd.heap_pair (Kd.heap_int .i64) Kd.heap_bool)))

section
variable {α : Type} {d : Kd α} {e base : Nat} {W : World} {ok : Nat → Prop} {v : Value} {xs : List α}
/-- Where the cells of a row's elements lie. -/
theorem take_at {cur : Array Value} {inner : List Value} {m j sz i : Nat} {u : Value} (ht : cur.toList.take m = inner) (h : ((inner.drop (j * sz)).take sz)[i]? = some u) : cur[j * sz + i]? = some u := by
  rw [List.getElem?_take] at h
  split at h
  · rw [List.getElem?_drop, ← ht, List.getElem?_take] at h
    split at h
    · simpa using h
    · cases h
  · cases h
/-- A row of the call's own, laid open. -/
theorem R_open (h : d.R e W base ok v xs) (hp : 0 < xs.length) : ∃ (g cap : Nat) (cur : Array Value), v = .slice (some ⟨g, 0, none⟩) xs.length cap ∧ base ≤ g ∧ ok g ∧ xs.length ≤ cap ∧ W.heap[g]? = some (.cells cur e (0, 0)) ∧
    ∀ j x, xs[j]? = some x → ∃ c, c.length = d.sz ∧ d.M W base (fun k => ok k ∧ k ≠ g) x c ∧ ∀ i u, c[i]? = some u → cur[j * d.sz + i]? = some u := by
  obtain ⟨h0, inner, ho, hr⟩ := h
  rcases ho.2 with ⟨_, hz⟩ | ⟨g, cap, cur, rfl, hg, hh, hc, _, hs, ht⟩
  · omega
  · have hgo : some g = (Value.slice (some ⟨g, 0, none⟩) xs.length cap).ownBlock := by simp [Value.ownBlock]
    refine ⟨g, cap, cur, rfl, hg, h0 g hgo.symm, hc, hh, fun j x hj => ⟨(inner.drop (j * d.sz)).take d.sz, ?_, ?_, fun i u hu => take_at ht hu⟩⟩
    · have hl : j < xs.length := (List.getElem?_eq_some_iff.1 hj).1
      have h1 : j * d.sz + d.sz ≤ inner.length := by rw [hr.1, ← Nat.succ_mul]; exact Nat.mul_le_mul_right _ hl
      rw [List.length_take, List.length_drop]; omega
    · exact d.M_mono (fun k hk => ⟨hk.1, fun he => hk.2 (by rw [he]; exact hgo)⟩) (hr.2 j x hj)
/-- Likewise of a row whose elements are only read. -/
theorem N_open (h : Kd.N d e W base ok v xs) (hp : 0 < xs.length) : ∃ (g cap : Nat) (cur : Array Value), v = .slice (some ⟨g, 0, none⟩) xs.length cap ∧ base ≤ g ∧ ok g ∧ xs.length ≤ cap ∧ W.heap[g]? = some (.cells cur e (0, 0)) ∧
    ∀ j x, xs[j]? = some x → ∃ c, c.length = d.sz ∧ Kd.FK d W (fun k => ok k ∧ k ≠ g) x c ∧ ∀ i u, c[i]? = some u → cur[j * d.sz + i]? = some u := by
  obtain ⟨h0, rows, hl, hR, hf⟩ := h
  obtain ⟨g, cap, cur, hv, hg, _, hc, hh, hat⟩ := R_open hR (by omega)
  rw [hl] at hv hc
  subst hv
  have hgo : some g = (Value.slice (some ⟨g, 0, none⟩) xs.length cap).ownBlock := by simp [Value.ownBlock]
  refine ⟨g, cap, cur, rfl, hg, h0 g hgo.symm, hc, hh, fun j x hj => ?_⟩
  have hlt : j < xs.length := (List.getElem?_eq_some_iff.1 hj).1
  obtain ⟨r, hr⟩ : ∃ r, rows[j]? = some r := ⟨_, List.getElem?_eq_getElem (by omega)⟩
  obtain ⟨c, hcl, hM, hcc⟩ := hat j r hr
  obtain rfl : c = r := hM.1
  exact ⟨c, hcl, Kd.FK_mono (hf j x c hj hr) (fun k hk => ⟨hk.1, fun he => hk.2 (by rw [he]; exact hgo)⟩), hcc⟩
end
/-- A row of blocks (in g), of which block b is laid open: its pages (in g2), its three numbers; the others lead to what lies in ok. -/
structure Held (W : World) (ok : Nat → Prop) (g g2 : Nat) (l : List Blk) (b : Nat) (A2 : Option Addr) (c2 : Nat) (ps : List Pg) (nx er : Int) (bad : Bool) : Prop where
  ne : g ≠ g2
  lt : b < l.length
  len : l.length ≤ 1000000
  plen : ps.length ≤ c2
  pmax : ps.length ≤ 1000000
  away : ∀ k, ok k → k ≠ g ∧ k ≠ g2
  row : ∃ cur : Array Value, W.heap[g]? = some (.cells cur 62 (0, 0)) ∧ cur[b * 4]? = some (.slice A2 ps.length c2) ∧ cur[b * 4 + 1]? = some (.int .i64 nx) ∧ cur[b * 4 + 2]? = some (.int .i64 er) ∧ cur[b * 4 + 3]? = some (.bool bad) ∧
    ∀ j x, j ≠ b → l[j]? = some x → ∃ c, c.length = 4 ∧ (∀ i u, c[i]? = some u → cur[j * 4 + i]? = some u) ∧ Kd.FK kB W ok x c
  pages : 0 < ps.length → A2 = some ⟨g2, 0, none⟩ ∧ ∃ cur : Array Value, W.heap[g2]? = some (.cells cur 54 (0, 0)) ∧
    ∀ j p, ps[j]? = some p → cur[j * 3]? = some (.bool p.f0) ∧ cur[j * 3 + 1]? = some (.string p.f1) ∧ cur[j * 3 + 2]? = some (.string p.f2)
section
variable {W W1 : World} {ok ok' : Nat → Prop} {g g2 : Nat} {l : List Blk} {b : Nat} {A2 : Option Addr} {c2 : Nat} {ps : List Pg} {nx er : Int} {bad : Bool}
/-- The block's cells. -/
theorem Held.cells (h : Held W ok g g2 l b A2 c2 ps nx er bad) : W.cell? ⟨g, b * 4, none⟩ = some (.slice A2 ps.length c2) ∧ W.cell? ⟨g, b * 4 + 1, none⟩ = some (.int .i64 nx) ∧ W.cell? ⟨g, b * 4 + 2, none⟩ = some (.int .i64 er) ∧ W.cell? ⟨g, b * 4 + 3, none⟩ = some (.bool bad) ∧
    W.frozen? ⟨g, b * 4, none⟩ = false ∧ W.frozen? ⟨g, b * 4 + 1, none⟩ = false ∧ W.frozen? ⟨g, b * 4 + 2, none⟩ = false ∧ W.frozen? ⟨g, b * 4 + 3, none⟩ = false := by
  obtain ⟨cur, hh, h0, h1, h2, h3, _⟩ := h.row
  exact ⟨(blk_cell hh _).trans h0, (blk_cell hh _).trans h1, (blk_cell hh _).trans h2, (blk_cell hh _).trans h3, blk_frozen hh _, blk_frozen hh _, blk_frozen hh _, blk_frozen hh _⟩
/-- A page's cells. -/
theorem Held.page (h : Held W ok g g2 l b A2 c2 ps nx er bad) {j : Nat} {p : Pg} (hj : ps[j]? = some p) : A2 = some ⟨g2, 0, none⟩ ∧ W.cell? ⟨g2, j * 3, none⟩ = some (.bool p.f0) ∧ W.cell? ⟨g2, j * 3 + 1, none⟩ = some (.string p.f1) ∧ W.cell? ⟨g2, j * 3 + 2, none⟩ = some (.string p.f2) ∧
    W.frozen? ⟨g2, j * 3, none⟩ = false ∧ W.frozen? ⟨g2, j * 3 + 1, none⟩ = false ∧ W.frozen? ⟨g2, j * 3 + 2, none⟩ = false := by
  obtain ⟨hA, cur, hh, hc⟩ := h.pages (by have := (List.getElem?_eq_some_iff.1 hj).1; omega)
  obtain ⟨h0, h1, h2⟩ := hc j p hj
  exact ⟨hA, (blk_cell hh _).trans h0, (blk_cell hh _).trans h1, (blk_cell hh _).trans h2, blk_frozen hh _, blk_frozen hh _, blk_frozen hh _⟩
/-- What writes neither into it nor into what it leads to. -/
theorem Held.step (h : Held W ok g g2 l b A2 c2 ps nx er bad) (hm : ∀ k, ok k ∨ k = g ∨ k = g2 → k < W.heap.size → W1.heap[k]? = W.heap[k]?) : Held W1 ok g g2 l b A2 c2 ps nx er bad := by
  obtain ⟨cur, hh, h0, h1, h2, h3, hr⟩ := h.row
  refine { h with row := ⟨cur, (hm g (.inr (.inl rfl)) (blk_lt hh)).trans hh, h0, h1, h2, h3, fun j x hj hx => ?_⟩, pages := fun hp => ?_ }
  · obtain ⟨c, hc, hcc, hf⟩ := hr j x hj hx
    exact ⟨c, hc, hcc, Kd.FK_step hf (fun k hk hlt => hm k (.inl hk) hlt)⟩
  · obtain ⟨hA, cur, hh, hc⟩ := h.pages hp
    exact ⟨hA, cur, (hm g2 (.inr (.inr rfl)) (blk_lt hh)).trans hh, hc⟩
theorem Held.below (h : Held W ok g g2 l b A2 c2 ps nx er bad) (hb : Below W.heap.size W W1) : Held W1 ok g g2 l b A2 c2 ps nx er bad := h.step (fun k _ hk => hb.block k hk)
theorem Held.alloc (h : Held W ok g g2 l b A2 c2 ps nx er bad) (o : Obj) : Held (W.alloc o) ok g g2 l b A2 c2 ps nx er bad := h.below (below_alloc (Below.refl _ _) o)
theorem Held.drew (h : Held W ok g g2 l b A2 c2 ps nx er bad) : Held W.drew ok g g2 l b A2 c2 ps nx er bad := h.below (below_drew (Below.refl _ _))
theorem Held.far (h : Held W ok g g2 l b A2 c2 ps nx er bad) {p : Addr} (h1 : ∀ k, ok k → k ≠ p.block) (h2 : p.block ≠ g) (h3 : p.block ≠ g2) (u : Value) : Held (W.setCell p u) ok g g2 l b A2 c2 ps nx er bad :=
  h.step (fun k hk _ => Below.heap_setCell W p u k (by
    rcases hk with hk | hk | hk
    · exact h1 k hk
    · rw [hk]; exact Ne.symm h2
    · rw [hk]; exact Ne.symm h3))
theorem FK_put {x : Blk} {c : List Value} (hf : Kd.FK kB W ok x c) {p : Addr} (h : ∀ k, ok k → k ≠ p.block) (u : Value) : Kd.FK kB (W.setCell p u) ok x c :=
  Kd.FK_step hf (fun k hk _ => Below.heap_setCell W p u k (h k hk))
theorem heap_put {cur : Array Value} {t : Nat} (hh : W.heap[g]? = some (.cells cur t (0, 0))) (i : Nat) (u : Value) : (W.setCell ⟨g, i, none⟩ u).heap[g]? = some (.cells (cur.setIfInBounds i u) t (0, 0)) := by
  unfold World.setCell
  simp [Array.getElem?_modify, hh]
theorem put_self {cur : Array Value} {i : Nat} {u z : Value} (h : cur[i]? = some z) : (cur.setIfInBounds i u)[i]? = some u := by
  have hl := (Array.getElem?_eq_some_iff.1 h).1
  simp [hl]
theorem put_ne {cur : Array Value} {i j : Nat} {u : Value} (h : i ≠ j) : (cur.setIfInBounds i u)[j]? = cur[j]? := by
  simp [h]
/-- A store into the block's own cell k (of which the walk says what stands there then). -/
theorem Held.put (h : Held W ok g g2 l b A2 c2 ps nx er bad) (k : Nat) (hk : k < 4) (u : Value) {ps' : List Pg} {A2' : Option Addr} {c2' : Nat} {nx' er' : Int} {bad' : Bool}
    (h0 : if k = 0 then u = .slice A2' ps'.length c2' else A2' = A2 ∧ c2' = c2 ∧ ps' = ps) (h1 : if k = 1 then u = .int .i64 nx' else nx' = nx) (h2 : if k = 2 then u = .int .i64 er' else er' = er) (h3 : if k = 3 then u = .bool bad' else bad' = bad)
    (hl : ps'.length ≤ c2') (hm : ps'.length ≤ 1000000)
    (hp : 0 < ps'.length → A2' = some ⟨g2, 0, none⟩ ∧ ∃ cur : Array Value, W.heap[g2]? = some (.cells cur 54 (0, 0)) ∧
      ∀ j p, ps'[j]? = some p → cur[j * 3]? = some (.bool p.f0) ∧ cur[j * 3 + 1]? = some (.string p.f1) ∧ cur[j * 3 + 2]? = some (.string p.f2)) :
    Held (W.setCell ⟨g, b * 4 + k, none⟩ u) ok g g2 l b A2' c2' ps' nx' er' bad' := by
  obtain ⟨cur, hh, e0, e1, e2, e3, hr⟩ := h.row
  refine { ne := h.ne, lt := h.lt, len := h.len, plen := hl, pmax := hm, away := h.away, row := ⟨_, heap_put hh _ u, ?_, ?_, ?_, ?_, fun j x hj hx => ?_⟩, pages := fun hq => ?_ }
  · by_cases hk0 : k = 0
    · subst hk0; rw [if_pos rfl] at h0; subst h0; exact put_self e0
    · rw [if_neg hk0] at h0; obtain ⟨rfl, rfl, rfl⟩ := h0; rw [put_ne (by omega)]; exact e0
  · by_cases hk0 : k = 1
    · subst hk0; rw [if_pos rfl] at h1; subst h1; exact put_self e1
    · rw [if_neg hk0] at h1; subst h1; rw [put_ne (by omega)]; exact e1
  · by_cases hk0 : k = 2
    · subst hk0; rw [if_pos rfl] at h2; subst h2; exact put_self e2
    · rw [if_neg hk0] at h2; subst h2; rw [put_ne (by omega)]; exact e2
  · by_cases hk0 : k = 3
    · subst hk0; rw [if_pos rfl] at h3; subst h3; exact put_self e3
    · rw [if_neg hk0] at h3; subst h3; rw [put_ne (by omega)]; exact e3
  · obtain ⟨c, hc, hcc, hf⟩ := hr j x hj hx
    refine ⟨c, hc, fun i u' hu => ?_, FK_put hf (fun k hk => (h.away k hk).1) u⟩
    have hi : i < 4 := by have := (List.getElem?_eq_some_iff.1 hu).1; omega
    rw [put_ne (by omega)]
    exact hcc i u' hu
  · obtain ⟨hA, cur2, hh2, hc⟩ := hp hq
    exact ⟨hA, cur2, (Below.heap_setCell W ⟨g, b * 4 + k, none⟩ u g2 (Ne.symm h.ne)).trans hh2, hc⟩
theorem Held.next (h : Held W ok g g2 l b A2 c2 ps nx er bad) (n : Int) : Held (W.setCell ⟨g, b * 4 + 1, none⟩ (.int .i64 n)) ok g g2 l b A2 c2 ps n er bad :=
  h.put 1 (by omega) _ (by simp) (by simp) (by simp) (by simp) h.plen h.pmax h.pages
theorem Held.erases (h : Held W ok g g2 l b A2 c2 ps nx er bad) (n : Int) : Held (W.setCell ⟨g, b * 4 + 2, none⟩ (.int .i64 n)) ok g g2 l b A2 c2 ps nx n bad :=
  h.put 2 (by omega) _ (by simp) (by simp) (by simp) (by simp) h.plen h.pmax h.pages
theorem Held.bad_ (h : Held W ok g g2 l b A2 c2 ps nx er bad) (n : Bool) : Held (W.setCell ⟨g, b * 4 + 3, none⟩ (.bool n)) ok g g2 l b A2 c2 ps nx er n :=
  h.put 3 (by omega) _ (by simp) (by simp) (by simp) (by simp) h.plen h.pmax h.pages
/-- A store into a page's cell. -/
theorem Held.pput (h : Held W ok g g2 l b A2 c2 ps nx er bad) {j : Nat} {p : Pg} (hj : ps[j]? = some p) (k : Nat) (hk : k < 3) (u : Value) (q : Pg)
    (h0 : if k = 0 then u = .bool q.f0 else q.f0 = p.f0) (h1 : if k = 1 then u = .string q.f1 else q.f1 = p.f1) (h2 : if k = 2 then u = .string q.f2 else q.f2 = p.f2) :
    Held (W.setCell ⟨g2, j * 3 + k, none⟩ u) ok g g2 l b A2 c2 (ps.set j q) nx er bad := by
  obtain ⟨cur, hh, e0, e1, e2, e3, hr⟩ := h.row
  have hjl : j < ps.length := (List.getElem?_eq_some_iff.1 hj).1
  obtain ⟨hA, cur2, hh2, hc⟩ := h.pages (by omega)
  refine { ne := h.ne, lt := h.lt, len := h.len, plen := by rw [List.length_set]; exact h.plen, pmax := by rw [List.length_set]; exact h.pmax, away := h.away, row := ⟨cur, (Below.heap_setCell W _ u g h.ne).trans hh, by rw [List.length_set]; exact e0, e1, e2, e3, fun i x hi hx => ?_⟩, pages := fun _ => ⟨hA, _, heap_put hh2 _ u, fun i p' hi => ?_⟩ }
  · obtain ⟨c, hcl, hcc, hf⟩ := hr i x hi hx
    exact ⟨c, hcl, hcc, FK_put hf (fun k hk => (h.away k hk).2) u⟩
  · by_cases hij : i = j
    · subst hij
      rw [List.getElem?_set_self hjl] at hi
      obtain rfl := Option.some.inj hi
      obtain ⟨d0, d1, d2⟩ := hc i p hj
      refine ⟨?_, ?_, ?_⟩
      · by_cases hk0 : k = 0
        · subst hk0; rw [if_pos rfl] at h0; rw [h0]; exact put_self d0
        · rw [if_neg hk0] at h0; rw [put_ne (by omega), h0]; exact d0
      · by_cases hk0 : k = 1
        · subst hk0; rw [if_pos rfl] at h1; rw [h1]; exact put_self d1
        · rw [if_neg hk0] at h1; rw [put_ne (by omega), h1]; exact d1
      · by_cases hk0 : k = 2
        · subst hk0; rw [if_pos rfl] at h2; rw [h2]; exact put_self d2
        · rw [if_neg hk0] at h2; rw [put_ne (by omega), h2]; exact d2
    · rw [List.getElem?_set_ne (Ne.symm hij)] at hi
      obtain ⟨d0, d1, d2⟩ := hc i p' hi
      rw [put_ne (by omega), put_ne (by omega), put_ne (by omega)]
      exact ⟨d0, d1, d2⟩
/-- The whole page. -/
theorem Held.pset (h : Held W ok g g2 l b A2 c2 ps nx er bad) {j : Nat} (hj : j < ps.length) (q : Pg) :
    Held (((W.setCell ⟨g2, j * 3, none⟩ (.bool q.f0)).setCell ⟨g2, j * 3 + 1, none⟩ (.string q.f1)).setCell ⟨g2, j * 3 + 2, none⟩ (.string q.f2)) ok g g2 l b A2 c2 (ps.set j q) nx er bad := by
  have h0 := h.pput (List.getElem?_eq_getElem hj) 0 (by omega) (.bool q.f0) ⟨q.f0, ps[j].f1, ps[j].f2⟩ (by simp) (by simp) (by simp)
  have h1 := h0.pput (j := j) (p := ⟨q.f0, ps[j].f1, ps[j].f2⟩) (List.getElem?_set_self hj) 1 (by omega) (.string q.f1) ⟨q.f0, q.f1, ps[j].f2⟩ (by simp) (by simp) (by simp)
  have h2 := h1.pput (j := j) (p := ⟨q.f0, q.f1, ps[j].f2⟩) (by rw [List.set_set]; exact List.getElem?_set_self hj) 2 (by omega) (.string q.f2) q (by simp) (by simp) (by simp)
  rw [List.set_set, List.set_set] at h2
  exact h2
/-- The chip, read. -/
theorem Held.C (h : Held W ok g g2 l b A2 c2 ps nx er bad) : Kd.C kB W (some ⟨g, 0, none⟩) (l.set b ⟨ps, nx, er, bad⟩).length (l.set b ⟨ps, nx, er, bad⟩) := by
  obtain ⟨cur, hh, e0, e1, e2, e3, hr⟩ := h.row
  have hlen := h.len
  refine ⟨rfl, by rw [List.length_set]; omega, fun _ => ⟨_, rfl, fun j x hj => ?_⟩⟩
  have hat : ∀ i u, cur[j * 4 + i]? = some u → W.cell? ((⟨g, 0, none⟩ : Addr).add (j * 4 + i)) = some u := fun i u hu => by
    rw [add_at, Nat.zero_add]
    exact (blk_cell hh _).trans hu
  by_cases hjb : j = b
  · subst hjb
    rw [List.getElem?_set_self h.lt] at hj
    obtain rfl := Option.some.inj hj
    have hK : kP.C W A2 ps.length ps := by
      refine ⟨rfl, by have := h.pmax; omega, fun hp => ?_⟩
      obtain ⟨rfl, cur2, hh2, hc⟩ := h.pages hp
      refine ⟨_, rfl, fun i p hi => ?_⟩
      obtain ⟨d0, d1, d2⟩ := hc i p hi
      refine ⟨_, rfl, k54_mk W p, fun k u hu => ?_⟩
      rw [add_at, Nat.zero_add]
      refine (blk_cell hh2 _).trans ?_
      match k, hu with
      | 0, hu => exact d0.trans hu
      | 1, hu => exact d1.trans hu
      | 2, hu => exact d2.trans hu
      | k + 3, hu => simp at hu
    refine ⟨_, rfl, k62_mk W ⟨ps, nx, er, bad⟩ h.plen hK, fun k u hu => hat k u ?_⟩
    match k, hu with
    | 0, hu => exact e0.trans hu
    | 1, hu => exact e1.trans hu
    | 2, hu => exact e2.trans hu
    | 3, hu => exact e3.trans hu
    | k + 4, hu => simp at hu
  · rw [List.getElem?_set_ne (Ne.symm hjb)] at hj
    obtain ⟨c, hc, hcc, hf⟩ := hr j x hjb hj
    exact ⟨c, hc, Kd.FK_now hf, fun i u hu => hat i u (hcc i u hu)⟩
/-- The chip, read: what it leads to. -/
theorem Held.F (h : Held W ok g g2 l b A2 c2 ps nx er bad) : Kd.F kB W (fun k => ok k ∨ k = g ∨ k = g2) (some ⟨g, 0, none⟩) (l.set b ⟨ps, nx, er, bad⟩).length (l.set b ⟨ps, nx, er, bad⟩) := fun _ hW => (h.step (fun k hk hlt => hW k hk hlt)).C
/-- .. and whatever comes. -/
theorem V_of_C {A : Option Addr} {n c base : Nat} {xs : List Blk} (h : Kd.C kB W A n xs) (hn : n ≤ c) : Kd.V kB 62 W base (fun _ => True) (.slice A n c) xs := by
  obtain rfl : xs.length = n := h.1
  exact ⟨A, c, rfl, hn, Kd.F_mono (Kd.C_F kB_heap h) (fun _ _ => trivial)⟩
end
/-- From a row whose elements are only read, and a row of pages of one's own. -/
theorem Held.of_N {W : World} {base : Nat} {ok : Nat → Prop} {v : Value} {l : List Blk} (h : Kd.N kB 62 W base ok v l) (hl : l.length ≤ 1000000) (b : Nat) (hb : b < l.length) (hp : l[b].f0.length ≤ 1000000) :
    ∃ (g cap : Nat) (A : Option Addr) (c : Nat), v = .slice (some ⟨g, 0, none⟩) l.length cap ∧ base ≤ g ∧ ok g ∧ l.length ≤ cap ∧ g < W.heap.size ∧ Kd.C kP W A l[b].f0.length l[b].f0 ∧ l[b].f0.length ≤ c ∧
      ∃ cur : Array Value, W.heap[g]? = some (.cells cur 62 (0, 0)) ∧ cur[b * 4]? = some (.slice A l[b].f0.length c) ∧ cur[b * 4 + 1]? = some (.int .i64 l[b].f1) ∧ cur[b * 4 + 2]? = some (.int .i64 l[b].f2) ∧ cur[b * 4 + 3]? = some (.bool l[b].f3) ∧
      ∀ j x, j ≠ b → l[j]? = some x → ∃ c, c.length = 4 ∧ (∀ i u, c[i]? = some u → cur[j * 4 + i]? = some u) ∧ Kd.FK kB W (fun k => ok k ∧ k ≠ g) x c := by
  obtain ⟨g, cap, cur, rfl, hg, hok, hc, hh, hat⟩ := N_open h (by omega)
  obtain ⟨cb, hcl, hM, hcc⟩ := hat b _ (List.getElem?_eq_getElem hb)
  obtain ⟨A, c, rfl, hle, hC⟩ := k62_open (Kd.FK_now hM)
  refine ⟨g, cap, A, c, rfl, hg, hok, hc, blk_lt hh, hC, hle, cur, hh, hcc 0 _ rfl, hcc 1 _ rfl, hcc 2 _ rfl, hcc 3 _ rfl, fun j x hj hx => ?_⟩
  obtain ⟨cj, hcl, hM, hcc⟩ := hat j x hx
  exact ⟨cj, hcl, hcc, hM⟩
end Go.Proofs.Ytfolonajajideaa.X
