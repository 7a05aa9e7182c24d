/- What a step by the document makes of a chip. -/
import Derived.Test.YthjjngfbpoapnaaNandOps
import Derived.Test.YthjjngfbpoapnaaPAllx12
import Derived.Test.YthjjngfbpoapnaaPAllx13
import Derived.Test.YthjjngfbpoapnaaPAllx14
import Derived.Test.YthjjngfbpoapnaaPAllx15
namespace Go.Proofs.Ythjjngfbpoapnaa.X
open Go.RowKit Go.Proofs.Ythjjngfbpoapnaa.PAll Go.Proofs.YthjjngfbpoapnaaW.PrintWords Go.Proofs.YthjjngfbpoapnaaW.PrintLast Go.Proofs.YthjjngfbpoapnaaW.PrintMore
set_option linter.unusedVariables false
set_option linter.unusedSimpArgs false
theorem rprog_f {l : List Blk} (h : sm l = true) (br off : Bool) (ops b p : Int) (pw : Bool) (d t : ByteArray) (kind : Int) (fd ft : ByteArray) (n : Int) : clinkerref05_Program.f l br off ops b p pw d t kind fd ft n = some (progV l br off ops b p d t kind fd ft) := if_pos h
theorem rera_f {l : List Blk} (h : sm l = true) (br off : Bool) (ops b kind : Int) (fd ft : ByteArray) (n : Int) : clinkerref05_Erase.f l br off ops b kind fd ft n = some (eraV l br off ops b kind n) := if_pos h
theorem on_f {l : List Blk} (h : sm l = true) (br off : Bool) (ops : Int) : clinkerref05_On.f l br off ops = some (l, br, false, ops) := if_pos h
/-- A chip as one step left it. -/
def Did (l : List Blk) (br off : Bool) (ops b p : Int) (v : List Blk × Bool × Bool × Int × Int) : Prop :=
  (∃ fk fn, v = eraV l br off ops b fk fn) ∨ ∃ d t fk fd ft, v = progV l br off ops b p d t fk fd ft
theorem Did.sm {l : List Blk} {br off : Bool} {ops b p : Int} {v : List Blk × Bool × Bool × Int × Int} (h : Did l br off ops b p v) (hs : sm l = true) : sm v.1 = true := by
  rcases h with ⟨fk, fn, rfl⟩ | ⟨d, t, fk, fd, ft, rfl⟩
  · exact sm_era hs ..
  · exact sm_prog hs ..
theorem done_j1 {l : List Blk} (hs : sm l = true) (br off : Bool) (ops b p x0 x1 x2 x3 : Int) (x4 x5 : ByteArray) :
    ∃ (v : List Blk × Bool × Bool × Int × Int) (off' : Bool), Ev (fun k => clinkerlaw05_done.j1 k b p l br off ops x0 x1 x2 x3 x4 x5) (v.1, v.2.1, off', v.2.2.2.1, b, p) ∧ Did l br off ops b p v := by
  obtain ⟨fk, fn, hf⟩ := fate_f x0 x1 x2 x3 x4 x5
  by_cases h4 : Int.tmod x0 4 = 0
  · have hs2 := sm_era hs br off ops b fk fn
    by_cases h3 : Int.tmod x0 3 = 0
    · refine ⟨eraV l br off ops b fk fn, false, Ev.step (fun k => clinkerlaw05_done.j1.eq_2 ..) (Ev.have_ hf (Ev.ite_pos h4 (Ev.have_ (rera_f hs ..) (Ev.ite_pos h3 (Ev.have_ (on_f hs2 ..) (Ev.now _)))))), .inl ⟨_, _, rfl⟩⟩
    · exact ⟨eraV l br off ops b fk fn, _, Ev.step (fun k => clinkerlaw05_done.j1.eq_2 ..) (Ev.have_ hf (Ev.ite_pos h4 (Ev.have_ (rera_f hs ..) (Ev.ite_neg h3 (Ev.now _))))), .inl ⟨_, _, rfl⟩⟩
  · have hs2 := sm_prog hs br off ops b p x4 x5 fk x5 x4
    by_cases h3 : Int.tmod x0 3 = 0
    · exact ⟨progV l br off ops b p x4 x5 fk x5 x4, false, Ev.step (fun k => clinkerlaw05_done.j1.eq_2 ..) (Ev.have_ hf (Ev.ite_neg h4 (Ev.have_ (rprog_f hs ..) (Ev.ite_pos h3 (Ev.have_ (on_f hs2 ..) (Ev.now _)))))), .inr ⟨_, _, _, _, _, rfl⟩⟩
    · exact ⟨progV l br off ops b p x4 x5 fk x5 x4, _, Ev.step (fun k => clinkerlaw05_done.j1.eq_2 ..) (Ev.have_ hf (Ev.ite_neg h4 (Ev.have_ (rprog_f hs ..) (Ev.ite_neg h3 (Ev.now _))))), .inr ⟨_, _, _, _, _, rfl⟩⟩
theorem done_ev {l : List Blk} (hs : sm l = true) (br off : Bool) (ops : Int) {x : St} (hx : SB x) :
    ∃ (v : List Blk × Bool × Bool × Int × Int) (off' : Bool) (b p : Int), Ev (fun k => clinkerlaw05_done.f k l br off ops x.f0 x.f1 x.f2 x.f3 x.f4 x.f5) (v.1, v.2.1, off', v.2.2.2.1, b, p) ∧ Did l br off ops b p v := by
  have hb := tmod_in (wrap64 x.f1) (by rw [tmod_byte (m := 5) hx.2.1]; exact hx.2.1.1) (show (0 : Int) < 5 by omega)
  unfold clinkerlaw05_done.f
  by_cases hl : Int.tmod (wrap64 x.f1) 5 < (l.length : Int)
  · by_cases h220 : x.f2 < 220
    · obtain ⟨v, off', h, hd⟩ := done_j1 hs br off ops (Int.tmod (wrap64 x.f1) 5) (rdB l (Int.tmod (wrap64 x.f1) 5)).f1 x.f0 x.f1 x.f2 x.f3 x.f4 x.f5
      exact ⟨v, off', _, _, Ev.ite_pos hl (Ev.step (fun k => clinkerlaw05_done.j0.eq_2 ..) (Ev.ite_pos (decide_eq_true h220) (Ev.ite_pos hb.1 (Ev.ite_pos hl h)))), hd⟩
    · obtain ⟨v, off', h, hd⟩ := done_j1 hs br off ops (Int.tmod (wrap64 x.f1) 5) (Int.tmod (wrap64 x.f2) 6) x.f0 x.f1 x.f2 x.f3 x.f4 x.f5
      exact ⟨v, off', _, _, Ev.ite_pos hl (Ev.step (fun k => clinkerlaw05_done.j0.eq_2 ..) (Ev.ite_neg (not_dec h220) h)), hd⟩
  · obtain ⟨v, off', h, hd⟩ := done_j1 hs br off ops (Int.tmod (wrap64 x.f1) 5) (Int.tmod (wrap64 x.f2) 6) x.f0 x.f1 x.f2 x.f3 x.f4 x.f5
    exact ⟨v, off', _, _, Ev.ite_neg hl (Ev.step (fun k => clinkerlaw05_done.j0.eq_2 ..) (Ev.ite_neg (by simp) h)), hd⟩
theorem rd_mem {zs : List St} {i : Nat} (h : (i : Int) < (zs.length : Int)) : rd_T37 zs (i : Int) ∈ zs := by
  show zs.getD (i : Int).toNat _ ∈ zs
  rw [Int.toNat_natCast, List.getD_eq_getElem?_getD, List.getElem?_eq_getElem (by omega)]
  exact List.getElem_mem _
end Go.Proofs.Ythjjngfbpoapnaa.X
