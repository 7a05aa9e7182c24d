/- Read, on both sides; what any right chip answers. -/
import Derived.Test.YtfolonajajideaaChipAll
namespace Go.Proofs.Ytfolonajajideaa.X
open Go.RowKit Go.Proofs.Ytfolonajajideaa.PAll Go.Proofs.YtfolonajajideaaW.PrintWords Go.Proofs.YtfolonajajideaaW.PrintLast Go.Proofs.YtfolonajajideaaW.PrintMore
set_option linter.unusedVariables false
set_option linter.unusedSimpArgs false
theorem Out.op {P : Nat → Prop} {w w' : World} {e : Ending} {r1 : List Blk} {r2 r3 : Bool} {r4 r5 : Int} (h : Out P w w' e (r1, r2, r3, r4, r5)) : ∃ (A : Option Addr) (c : Nat), e = .returned (.tuple #[.agg #[.slice A r1.length c, .bool r2, .bool r3, .int .i64 r4], .int .i64 r5]) ∧ r1.length ≤ c ∧
    Kd.F kB w' (fun k => P k ∨ w.heap.size ≤ k) A r1.length r1 ∧ Below w.heap.size w w' := h
end Go.Proofs.Ytfolonajajideaa.X

