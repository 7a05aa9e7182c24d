/-
  No cell of these rows narrows 'for every input' (looked for: loops, veiled, ifaces, maps, wideKeys, modest, calm, conditions, laid).
  DERIVED. THE GIVEN ROWS OF THIS SEAT. 3 by the template 'for every input the law returns true; each argument reads behind the call as it read before'; 0 by the template 'total and deterministic' (their statements: YtnbhkogjamdfhaaTotals.lean).
  GIVEN WITH THE SEED: the statements are not yours to turn. If you find one false, say at which input.
  Laid BY PROGRAM, IN A SANDBOX (cutbox-rows.mjs): the forced cells as the released guide's own fill.sh prints them over the translation 51e60355a328167b… (all of the seat's roots in one cut). By AI agents, Wed Nov 11 2026. No macro, syntax, notation, axiom, sorry.
-/
import Derived.Test.YtnbhkogjamdfhaaChecked
import GoSem.Claim
import GoSem.ClaimJoined
import GoSem.ClaimMapViews
import Derived.JoinedTies
import Derived.KernelRfl
namespace Go.Proofs.Ytnbhkogjamdfhaa
/- THE CELL 'sum', in the pinned program and in every row, IS THE sha256 OF THE DUMP (.gsa) THAT YtnbhkogjamdfhaaProg.lean LOADS. Nothing in Lean hashes anything: it is a label: what it is worth is what the hold of that sum in a sandbox is worth. -/
noncomputable def Try.pinned : Pinned := { name := "ytnbhkogjamdfhaa", sum := "51e60355a328167b384bd6245402820bb21aba4cd4b90086fe197aeaafa6ab97", checked := Try.checked }
namespace Rows
def none {H : Type} : Left H := { results := [], args := [] }

/-- 'clinkerlaw10.StatesOne': WHATEVER THE INPUT: true; the input reads as it did. -/
def statesOneSpec : ChangeSpec := { name := "statesOne", fn := fun _ => fun
  | [d1, d2, d3] => { results := [.lit (.bool true)], args := [d1, d2, d3] }
  | _ => none }
def statesOneRow : OpenClaim := { program := "ytnbhkogjamdfhaa", sum := "51e60355a328167b384bd6245402820bb21aba4cd4b90086fe197aeaafa6ab97", func := "clinker/clinkerlaw10.StatesOne", spec := "statesOne", unfollowed := true, recurses := true, apart := false }
def StatesOneSaid : Prop := statesOneRow.holds Try.pinned (OpenSpec.ofChange statesOneSpec)

/-- ITS FALSE NEIGHBOUR: 'it returns false'. Refute it at one input. -/
def statesOneWrong : ChangeSpec := { name := "statesOne", fn := fun _ => fun
  | [d1, d2, d3] => { results := [.lit (.bool false)], args := [d1, d2, d3] }
  | _ => none }
def StatesOneWrongFalsely : Prop := statesOneRow.holds Try.pinned (OpenSpec.ofChange statesOneWrong)

/-- 'clinkerlaw10.StatesPick': WHATEVER THE INPUT: true; the input reads as it did. -/
def statesPickSpec : ChangeSpec := { name := "statesPick", fn := fun _ => fun
  | [d1, d2] => { results := [.lit (.bool true)], args := [d1, d2] }
  | _ => none }
def statesPickRow : OpenClaim := { program := "ytnbhkogjamdfhaa", sum := "51e60355a328167b384bd6245402820bb21aba4cd4b90086fe197aeaafa6ab97", func := "clinker/clinkerlaw10.StatesPick", spec := "statesPick", unfollowed := true, recurses := true, apart := false }
def StatesPickSaid : Prop := statesPickRow.holds Try.pinned (OpenSpec.ofChange statesPickSpec)

/-- ITS FALSE NEIGHBOUR: 'it returns false'. Refute it at one input. -/
def statesPickWrong : ChangeSpec := { name := "statesPick", fn := fun _ => fun
  | [d1, d2] => { results := [.lit (.bool false)], args := [d1, d2] }
  | _ => none }
def StatesPickWrongFalsely : Prop := statesPickRow.holds Try.pinned (OpenSpec.ofChange statesPickWrong)

/-- 'clinkerlaw10.StatesWear': WHATEVER THE INPUT: true; the input reads as it did. -/
def statesWearSpec : ChangeSpec := { name := "statesWear", fn := fun _ => fun
  | [d1, d2, d3] => { results := [.lit (.bool true)], args := [d1, d2, d3] }
  | _ => none }
def statesWearRow : OpenClaim := { program := "ytnbhkogjamdfhaa", sum := "51e60355a328167b384bd6245402820bb21aba4cd4b90086fe197aeaafa6ab97", func := "clinker/clinkerlaw10.StatesWear", spec := "statesWear", unfollowed := true, recurses := true, apart := false }
def StatesWearSaid : Prop := statesWearRow.holds Try.pinned (OpenSpec.ofChange statesWearSpec)

/-- ITS FALSE NEIGHBOUR: 'it returns false'. Refute it at one input. -/
def statesWearWrong : ChangeSpec := { name := "statesWear", fn := fun _ => fun
  | [d1, d2, d3] => { results := [.lit (.bool false)], args := [d1, d2, d3] }
  | _ => none }
def StatesWearWrongFalsely : Prop := statesWearRow.holds Try.pinned (OpenSpec.ofChange statesWearWrong)

/- THE SECOND FORM. 'bulk': how many values and letters a reading holds, each counted each time it is reached (what is shared counts as often as it is met; a slice's spare places count too). A statement '..UptoSaid' is the law's where the arguments, and the package variables that the reading takes, are together of bulk at most 1048576: NARROWER than '..Said'. Prove '..Said' where nothing that the law and all that it calls make is longer than what came in: it says more and counts as full. Else prove '..UptoSaid'. A law counts once. -/
mutual
def uptoBulk {H : Type} : DataW H → Nat
  | .lit (.string bytes) => bytes.length + 1
  | .lit _ => 1
  | .nil => 1
  | .ptr d => uptoBulk d + 1
  | .slice elems spare => uptoBulkAll elems + uptoBulkAll spare + 1
  | .agg parts => uptoBulkAll parts + 1
  | .iface _ d => uptoBulk d + 1
  | .map entries => uptoBulkEntries entries + 1
  | .held _ => 1
def uptoBulkAll {H : Type} : List (DataW H) → Nat
  | [] => 0
  | d :: r => uptoBulk d + uptoBulkAll r
def uptoBulkEntries {H : Type} : List (Lit × DataW H) → Nat
  | [] => 0
  | x :: r => uptoBulkEntry x + uptoBulkEntries r
def uptoBulkEntry {H : Type} : Lit × DataW H → Nat
  | (.string bytes, d) => bytes.length + uptoBulk d + 1
  | (_, d) => uptoBulk d + 1
 end
def uptoSmall : (H : Type) → List (DataW H) → Bool := fun _ ds => decide (uptoBulkAll ds ≤ 1048576)
def OpenSpec.upto (s : _root_.Go.ChangeSpec) : _root_.Go.OpenSpec := { _root_.Go.OpenSpec.ofChange s with cond := some uptoSmall }

/-- 'clinkerlaw10.StatesOne', WHERE WHAT IT READS IS OF BULK AT MOST 1048576: true; the input reads as it did. -/
def statesOneUptoRow : OpenClaim := { program := "ytnbhkogjamdfhaa", sum := "51e60355a328167b384bd6245402820bb21aba4cd4b90086fe197aeaafa6ab97", func := "clinker/clinkerlaw10.StatesOne", spec := "statesOne", unfollowed := true, recurses := true, apart := false, narrowed := true }
def StatesOneUptoSaid : Prop := statesOneUptoRow.holds Try.pinned (OpenSpec.upto statesOneSpec)

/-- 'clinkerlaw10.StatesPick', WHERE WHAT IT READS IS OF BULK AT MOST 1048576: true; the input reads as it did. -/
def statesPickUptoRow : OpenClaim := { program := "ytnbhkogjamdfhaa", sum := "51e60355a328167b384bd6245402820bb21aba4cd4b90086fe197aeaafa6ab97", func := "clinker/clinkerlaw10.StatesPick", spec := "statesPick", unfollowed := true, recurses := true, apart := false, narrowed := true }
def StatesPickUptoSaid : Prop := statesPickUptoRow.holds Try.pinned (OpenSpec.upto statesPickSpec)

/-- 'clinkerlaw10.StatesWear', WHERE WHAT IT READS IS OF BULK AT MOST 1048576: true; the input reads as it did. -/
def statesWearUptoRow : OpenClaim := { program := "ytnbhkogjamdfhaa", sum := "51e60355a328167b384bd6245402820bb21aba4cd4b90086fe197aeaafa6ab97", func := "clinker/clinkerlaw10.StatesWear", spec := "statesWear", unfollowed := true, recurses := true, apart := false, narrowed := true }
def StatesWearUptoSaid : Prop := statesWearUptoRow.holds Try.pinned (OpenSpec.upto statesWearSpec)

end Rows
end Go.Proofs.Ytnbhkogjamdfhaa
