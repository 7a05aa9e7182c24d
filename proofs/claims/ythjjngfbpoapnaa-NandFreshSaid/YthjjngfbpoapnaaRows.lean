/-
  No cell of these rows narrows 'for every input' (looked for: loops, veiled, ifaces, maps, wideKeys, modest, calm, conditions, laid).
  DERIVED. THE GIVEN ROWS OF THIS SEAT. 8 by the template 'for every input the law returns true; each argument reads behind the call as it read before'; 0 by the template 'total and deterministic' (their statements: YthjjngfbpoapnaaTotals.lean).
  GIVEN WITH THE SEED: the statements are not yours to turn. If you find one false, say at which input.
  Laid BY PROGRAM, IN A SANDBOX (cutbox-rows.mjs): the forced cells as the released guide's own fill.sh prints them over the translation b8711e434bfab885… (all of the seat's roots in one cut). By AI agents, Wed Nov 11 2026. No macro, syntax, notation, axiom, sorry.
-/
import Derived.Test.YthjjngfbpoapnaaChecked
import GoSem.Claim
import GoSem.ClaimJoined
import GoSem.ClaimMapViews
import Derived.JoinedTies
import Derived.KernelRfl
namespace Go.Proofs.Ythjjngfbpoapnaa
/- THE CELL 'sum', in the pinned program and in every row, IS THE sha256 OF THE DUMP (.gsa) THAT YthjjngfbpoapnaaProg.lean LOADS. Nothing in Lean hashes anything: it is a label: what it is worth is what the hold of that sum in a sandbox is worth. -/
noncomputable def Try.pinned : Pinned := { name := "ythjjngfbpoapnaa", sum := "b8711e434bfab885f2fa33d10dcca219435225c12e3765c3b6fa06dedb0a6df6", checked := Try.checked }
namespace Rows
def none {H : Type} : Left H := { results := [], args := [] }

/-- 'clinkerlaw05.NandNew': WHATEVER THE INPUT: true; the input reads as it did. -/
def nandNewSpec : ChangeSpec := { name := "nandNew", fn := fun _ => fun
  | [d1, d2, d3, d4, d5, d6] => { results := [.lit (.bool true)], args := [d1, d2, d3, d4, d5, d6] }
  | _ => none }
def nandNewRow : OpenClaim := { program := "ythjjngfbpoapnaa", sum := "b8711e434bfab885f2fa33d10dcca219435225c12e3765c3b6fa06dedb0a6df6", func := "clinker/clinkerlaw05.NandNew", spec := "nandNew", unfollowed := true, recurses := true, apart := false }
def NandNewSaid : Prop := nandNewRow.holds Try.pinned (OpenSpec.ofChange nandNewSpec)

/-- ITS FALSE NEIGHBOUR: 'it returns false'. Refute it at one input. -/
def nandNewWrong : ChangeSpec := { name := "nandNew", fn := fun _ => fun
  | [d1, d2, d3, d4, d5, d6] => { results := [.lit (.bool false)], args := [d1, d2, d3, d4, d5, d6] }
  | _ => none }
def NandNewWrongFalsely : Prop := nandNewRow.holds Try.pinned (OpenSpec.ofChange nandNewWrong)

/-- 'clinkerlaw05.NandFresh': WHATEVER THE INPUT: true; the input reads as it did. -/
def nandFreshSpec : ChangeSpec := { name := "nandFresh", fn := fun _ => fun
  | [d1, d2, d3] => { results := [.lit (.bool true)], args := [d1, d2, d3] }
  | _ => none }
def nandFreshRow : OpenClaim := { program := "ythjjngfbpoapnaa", sum := "b8711e434bfab885f2fa33d10dcca219435225c12e3765c3b6fa06dedb0a6df6", func := "clinker/clinkerlaw05.NandFresh", spec := "nandFresh", unfollowed := true, recurses := true, apart := false }
def NandFreshSaid : Prop := nandFreshRow.holds Try.pinned (OpenSpec.ofChange nandFreshSpec)

/-- ITS FALSE NEIGHBOUR: 'it returns false'. Refute it at one input. -/
def nandFreshWrong : ChangeSpec := { name := "nandFresh", fn := fun _ => fun
  | [d1, d2, d3] => { results := [.lit (.bool false)], args := [d1, d2, d3] }
  | _ => none }
def NandFreshWrongFalsely : Prop := nandFreshRow.holds Try.pinned (OpenSpec.ofChange nandFreshWrong)

/-- 'clinkerlaw05.NandAny': WHATEVER THE INPUT: true; the input reads as it did. -/
def nandAnySpec : ChangeSpec := { name := "nandAny", fn := fun _ => fun
  | [d1, d2, d3, d4, d5] => { results := [.lit (.bool true)], args := [d1, d2, d3, d4, d5] }
  | _ => none }
def nandAnyRow : OpenClaim := { program := "ythjjngfbpoapnaa", sum := "b8711e434bfab885f2fa33d10dcca219435225c12e3765c3b6fa06dedb0a6df6", func := "clinker/clinkerlaw05.NandAny", spec := "nandAny", unfollowed := true, recurses := true, apart := false }
def NandAnySaid : Prop := nandAnyRow.holds Try.pinned (OpenSpec.ofChange nandAnySpec)

/-- ITS FALSE NEIGHBOUR: 'it returns false'. Refute it at one input. -/
def nandAnyWrong : ChangeSpec := { name := "nandAny", fn := fun _ => fun
  | [d1, d2, d3, d4, d5] => { results := [.lit (.bool false)], args := [d1, d2, d3, d4, d5] }
  | _ => none }
def NandAnyWrongFalsely : Prop := nandAnyRow.holds Try.pinned (OpenSpec.ofChange nandAnyWrong)

/-- 'clinkerlaw05.NandSteps': WHATEVER THE INPUT: true; the input reads as it did. -/
def nandStepsSpec : ChangeSpec := { name := "nandSteps", fn := fun _ => fun
  | [d1, d2, d3] => { results := [.lit (.bool true)], args := [d1, d2, d3] }
  | _ => none }
def nandStepsRow : OpenClaim := { program := "ythjjngfbpoapnaa", sum := "b8711e434bfab885f2fa33d10dcca219435225c12e3765c3b6fa06dedb0a6df6", func := "clinker/clinkerlaw05.NandSteps", spec := "nandSteps", unfollowed := true, recurses := true, apart := false }
def NandStepsSaid : Prop := nandStepsRow.holds Try.pinned (OpenSpec.ofChange nandStepsSpec)

/-- ITS FALSE NEIGHBOUR: 'it returns false'. Refute it at one input. -/
def nandStepsWrong : ChangeSpec := { name := "nandSteps", fn := fun _ => fun
  | [d1, d2, d3] => { results := [.lit (.bool false)], args := [d1, d2, d3] }
  | _ => none }
def NandStepsWrongFalsely : Prop := nandStepsRow.holds Try.pinned (OpenSpec.ofChange nandStepsWrong)

/-- 'clinkerlaw05.NandReads': WHATEVER THE INPUT: true; the input reads as it did. -/
def nandReadsSpec : ChangeSpec := { name := "nandReads", fn := fun _ => fun
  | [d1, d2, d3] => { results := [.lit (.bool true)], args := [d1, d2, d3] }
  | _ => none }
def nandReadsRow : OpenClaim := { program := "ythjjngfbpoapnaa", sum := "b8711e434bfab885f2fa33d10dcca219435225c12e3765c3b6fa06dedb0a6df6", func := "clinker/clinkerlaw05.NandReads", spec := "nandReads", unfollowed := true, recurses := true, apart := false }
def NandReadsSaid : Prop := nandReadsRow.holds Try.pinned (OpenSpec.ofChange nandReadsSpec)

/-- ITS FALSE NEIGHBOUR: 'it returns false'. Refute it at one input. -/
def nandReadsWrong : ChangeSpec := { name := "nandReads", fn := fun _ => fun
  | [d1, d2, d3] => { results := [.lit (.bool false)], args := [d1, d2, d3] }
  | _ => none }
def NandReadsWrongFalsely : Prop := nandReadsRow.holds Try.pinned (OpenSpec.ofChange nandReadsWrong)

/-- 'clinkerlaw05.NandOnce': WHATEVER THE INPUT: true; the input reads as it did. -/
def nandOnceSpec : ChangeSpec := { name := "nandOnce", fn := fun _ => fun
  | [d1, d2] => { results := [.lit (.bool true)], args := [d1, d2] }
  | _ => none }
def nandOnceRow : OpenClaim := { program := "ythjjngfbpoapnaa", sum := "b8711e434bfab885f2fa33d10dcca219435225c12e3765c3b6fa06dedb0a6df6", func := "clinker/clinkerlaw05.NandOnce", spec := "nandOnce", unfollowed := true, recurses := true, apart := false }
def NandOnceSaid : Prop := nandOnceRow.holds Try.pinned (OpenSpec.ofChange nandOnceSpec)

/-- ITS FALSE NEIGHBOUR: 'it returns false'. Refute it at one input. -/
def nandOnceWrong : ChangeSpec := { name := "nandOnce", fn := fun _ => fun
  | [d1, d2] => { results := [.lit (.bool false)], args := [d1, d2] }
  | _ => none }
def NandOnceWrongFalsely : Prop := nandOnceRow.holds Try.pinned (OpenSpec.ofChange nandOnceWrong)

/-- 'clinkerlaw05.NandOff': WHATEVER THE INPUT: true; the input reads as it did. -/
def nandOffSpec : ChangeSpec := { name := "nandOff", fn := fun _ => fun
  | [d1, d2, d3, d4] => { results := [.lit (.bool true)], args := [d1, d2, d3, d4] }
  | _ => none }
def nandOffRow : OpenClaim := { program := "ythjjngfbpoapnaa", sum := "b8711e434bfab885f2fa33d10dcca219435225c12e3765c3b6fa06dedb0a6df6", func := "clinker/clinkerlaw05.NandOff", spec := "nandOff", unfollowed := true, recurses := true, apart := false }
def NandOffSaid : Prop := nandOffRow.holds Try.pinned (OpenSpec.ofChange nandOffSpec)

/-- ITS FALSE NEIGHBOUR: 'it returns false'. Refute it at one input. -/
def nandOffWrong : ChangeSpec := { name := "nandOff", fn := fun _ => fun
  | [d1, d2, d3, d4] => { results := [.lit (.bool false)], args := [d1, d2, d3, d4] }
  | _ => none }
def NandOffWrongFalsely : Prop := nandOffRow.holds Try.pinned (OpenSpec.ofChange nandOffWrong)

/-- 'clinkerlaw05.NandCounts': WHATEVER THE INPUT: true; the input reads as it did. -/
def nandCountsSpec : ChangeSpec := { name := "nandCounts", fn := fun _ => fun
  | [d1, d2] => { results := [.lit (.bool true)], args := [d1, d2] }
  | _ => none }
def nandCountsRow : OpenClaim := { program := "ythjjngfbpoapnaa", sum := "b8711e434bfab885f2fa33d10dcca219435225c12e3765c3b6fa06dedb0a6df6", func := "clinker/clinkerlaw05.NandCounts", spec := "nandCounts", unfollowed := true, recurses := true, apart := false }
def NandCountsSaid : Prop := nandCountsRow.holds Try.pinned (OpenSpec.ofChange nandCountsSpec)

/-- ITS FALSE NEIGHBOUR: 'it returns false'. Refute it at one input. -/
def nandCountsWrong : ChangeSpec := { name := "nandCounts", fn := fun _ => fun
  | [d1, d2] => { results := [.lit (.bool false)], args := [d1, d2] }
  | _ => none }
def NandCountsWrongFalsely : Prop := nandCountsRow.holds Try.pinned (OpenSpec.ofChange nandCountsWrong)

/- THE SECOND FORM. 'bulk': how many values and letters a reading holds, each counted each time it is reached (what is shared counts as often as it is met; a slice's spare places count too). A statement '..UptoSaid' is the law's where the arguments, and the package variables that the reading takes, are together of bulk at most 1048576: NARROWER than '..Said'. Prove '..Said' where nothing that the law and all that it calls make is longer than what came in: it says more and counts as full. Else prove '..UptoSaid'. A law counts once. -/
mutual
def uptoBulk {H : Type} : DataW H → Nat
  | .lit (.string bytes) => bytes.length + 1
  | .lit _ => 1
  | .nil => 1
  | .ptr d => uptoBulk d + 1
  | .slice elems spare => uptoBulkAll elems + uptoBulkAll spare + 1
  | .agg parts => uptoBulkAll parts + 1
  | .iface _ d => uptoBulk d + 1
  | .map entries => uptoBulkEntries entries + 1
  | .held _ => 1
def uptoBulkAll {H : Type} : List (DataW H) → Nat
  | [] => 0
  | d :: r => uptoBulk d + uptoBulkAll r
def uptoBulkEntries {H : Type} : List (Lit × DataW H) → Nat
  | [] => 0
  | x :: r => uptoBulkEntry x + uptoBulkEntries r
def uptoBulkEntry {H : Type} : Lit × DataW H → Nat
  | (.string bytes, d) => bytes.length + uptoBulk d + 1
  | (_, d) => uptoBulk d + 1
 end
def uptoSmall : (H : Type) → List (DataW H) → Bool := fun _ ds => decide (uptoBulkAll ds ≤ 1048576)
def OpenSpec.upto (s : _root_.Go.ChangeSpec) : _root_.Go.OpenSpec := { _root_.Go.OpenSpec.ofChange s with cond := some uptoSmall }

/-- 'clinkerlaw05.NandNew', WHERE WHAT IT READS IS OF BULK AT MOST 1048576: true; the input reads as it did. -/
def nandNewUptoRow : OpenClaim := { program := "ythjjngfbpoapnaa", sum := "b8711e434bfab885f2fa33d10dcca219435225c12e3765c3b6fa06dedb0a6df6", func := "clinker/clinkerlaw05.NandNew", spec := "nandNew", unfollowed := true, recurses := true, apart := false, narrowed := true }
def NandNewUptoSaid : Prop := nandNewUptoRow.holds Try.pinned (OpenSpec.upto nandNewSpec)

/-- 'clinkerlaw05.NandFresh', WHERE WHAT IT READS IS OF BULK AT MOST 1048576: true; the input reads as it did. -/
def nandFreshUptoRow : OpenClaim := { program := "ythjjngfbpoapnaa", sum := "b8711e434bfab885f2fa33d10dcca219435225c12e3765c3b6fa06dedb0a6df6", func := "clinker/clinkerlaw05.NandFresh", spec := "nandFresh", unfollowed := true, recurses := true, apart := false, narrowed := true }
def NandFreshUptoSaid : Prop := nandFreshUptoRow.holds Try.pinned (OpenSpec.upto nandFreshSpec)

/-- 'clinkerlaw05.NandAny', WHERE WHAT IT READS IS OF BULK AT MOST 1048576: true; the input reads as it did. -/
def nandAnyUptoRow : OpenClaim := { program := "ythjjngfbpoapnaa", sum := "b8711e434bfab885f2fa33d10dcca219435225c12e3765c3b6fa06dedb0a6df6", func := "clinker/clinkerlaw05.NandAny", spec := "nandAny", unfollowed := true, recurses := true, apart := false, narrowed := true }
def NandAnyUptoSaid : Prop := nandAnyUptoRow.holds Try.pinned (OpenSpec.upto nandAnySpec)

/-- 'clinkerlaw05.NandSteps', WHERE WHAT IT READS IS OF BULK AT MOST 1048576: true; the input reads as it did. -/
def nandStepsUptoRow : OpenClaim := { program := "ythjjngfbpoapnaa", sum := "b8711e434bfab885f2fa33d10dcca219435225c12e3765c3b6fa06dedb0a6df6", func := "clinker/clinkerlaw05.NandSteps", spec := "nandSteps", unfollowed := true, recurses := true, apart := false, narrowed := true }
def NandStepsUptoSaid : Prop := nandStepsUptoRow.holds Try.pinned (OpenSpec.upto nandStepsSpec)

/-- 'clinkerlaw05.NandReads', WHERE WHAT IT READS IS OF BULK AT MOST 1048576: true; the input reads as it did. -/
def nandReadsUptoRow : OpenClaim := { program := "ythjjngfbpoapnaa", sum := "b8711e434bfab885f2fa33d10dcca219435225c12e3765c3b6fa06dedb0a6df6", func := "clinker/clinkerlaw05.NandReads", spec := "nandReads", unfollowed := true, recurses := true, apart := false, narrowed := true }
def NandReadsUptoSaid : Prop := nandReadsUptoRow.holds Try.pinned (OpenSpec.upto nandReadsSpec)

/-- 'clinkerlaw05.NandOnce', WHERE WHAT IT READS IS OF BULK AT MOST 1048576: true; the input reads as it did. -/
def nandOnceUptoRow : OpenClaim := { program := "ythjjngfbpoapnaa", sum := "b8711e434bfab885f2fa33d10dcca219435225c12e3765c3b6fa06dedb0a6df6", func := "clinker/clinkerlaw05.NandOnce", spec := "nandOnce", unfollowed := true, recurses := true, apart := false, narrowed := true }
def NandOnceUptoSaid : Prop := nandOnceUptoRow.holds Try.pinned (OpenSpec.upto nandOnceSpec)

/-- 'clinkerlaw05.NandOff', WHERE WHAT IT READS IS OF BULK AT MOST 1048576: true; the input reads as it did. -/
def nandOffUptoRow : OpenClaim := { program := "ythjjngfbpoapnaa", sum := "b8711e434bfab885f2fa33d10dcca219435225c12e3765c3b6fa06dedb0a6df6", func := "clinker/clinkerlaw05.NandOff", spec := "nandOff", unfollowed := true, recurses := true, apart := false, narrowed := true }
def NandOffUptoSaid : Prop := nandOffUptoRow.holds Try.pinned (OpenSpec.upto nandOffSpec)

/-- 'clinkerlaw05.NandCounts', WHERE WHAT IT READS IS OF BULK AT MOST 1048576: true; the input reads as it did. -/
def nandCountsUptoRow : OpenClaim := { program := "ythjjngfbpoapnaa", sum := "b8711e434bfab885f2fa33d10dcca219435225c12e3765c3b6fa06dedb0a6df6", func := "clinker/clinkerlaw05.NandCounts", spec := "nandCounts", unfollowed := true, recurses := true, apart := false, narrowed := true }
def NandCountsUptoSaid : Prop := nandCountsUptoRow.holds Try.pinned (OpenSpec.upto nandCountsSpec)

end Rows
end Go.Proofs.Ythjjngfbpoapnaa
