/-
  No cell of these rows narrows 'for every input' (looked for: loops, veiled, ifaces, maps, wideKeys, modest, calm, conditions, laid).
  DERIVED. THE GIVEN ROWS OF THIS SEAT. 3 by the template 'for every input the law returns true; each argument reads behind the call as it read before'; 0 by the template 'total and deterministic' (their statements: YtnmafncghbkogaaTotals.lean).
  GIVEN WITH THE SEED: the statements are not yours to turn. If you find one false, say at which input.
  Laid BY PROGRAM, IN A SANDBOX (cutbox-rows.mjs): the forced cells as the released guide's own fill.sh prints them over the translation 4741cb0fb8e7ac6e… (all of the seat's roots in one cut). By AI agents, Wed Nov 11 2026. No macro, syntax, notation, axiom, sorry.
-/
import Derived.Test.YtnmafncghbkogaaChecked
import GoSem.Claim
import GoSem.ClaimJoined
import GoSem.ClaimMapViews
import Derived.JoinedTies
import Derived.KernelRfl
namespace Go.Proofs.Ytnmafncghbkogaa
/- THE CELL 'sum', in the pinned program and in every row, IS THE sha256 OF THE DUMP (.gsa) THAT YtnmafncghbkogaaProg.lean LOADS. Nothing in Lean hashes anything: it is a label: what it is worth is what the hold of that sum in a sandbox is worth. -/
noncomputable def Try.pinned : Pinned := { name := "ytnmafncghbkogaa", sum := "4741cb0fb8e7ac6ec03f2463cbd80f09abfc39fb821b9fe4a80a539b429c9ac5", checked := Try.checked }
namespace Rows
def none {H : Type} : Left H := { results := [], args := [] }

/-- 'clinkerlaw09.IndexKeeps': WHATEVER THE INPUT: true; the input reads as it did. -/
def indexKeepsSpec : ChangeSpec := { name := "indexKeeps", fn := fun _ => fun
  | [d1, d2] => { results := [.lit (.bool true)], args := [d1, d2] }
  | _ => none }
def indexKeepsRow : OpenClaim := { program := "ytnmafncghbkogaa", sum := "4741cb0fb8e7ac6ec03f2463cbd80f09abfc39fb821b9fe4a80a539b429c9ac5", func := "clinker/clinkerlaw09.IndexKeeps", spec := "indexKeeps", unfollowed := true, recurses := true, apart := false }
def IndexKeepsSaid : Prop := indexKeepsRow.holds Try.pinned (OpenSpec.ofChange indexKeepsSpec)

/-- ITS FALSE NEIGHBOUR: 'it returns false'. Refute it at one input. -/
def indexKeepsWrong : ChangeSpec := { name := "indexKeeps", fn := fun _ => fun
  | [d1, d2] => { results := [.lit (.bool false)], args := [d1, d2] }
  | _ => none }
def IndexKeepsWrongFalsely : Prop := indexKeepsRow.holds Try.pinned (OpenSpec.ofChange indexKeepsWrong)

/-- 'clinkerlaw09.IndexFull': WHATEVER THE INPUT: true; the input reads as it did. -/
def indexFullSpec : ChangeSpec := { name := "indexFull", fn := fun _ => fun
  | [d1, d2] => { results := [.lit (.bool true)], args := [d1, d2] }
  | _ => none }
def indexFullRow : OpenClaim := { program := "ytnmafncghbkogaa", sum := "4741cb0fb8e7ac6ec03f2463cbd80f09abfc39fb821b9fe4a80a539b429c9ac5", func := "clinker/clinkerlaw09.IndexFull", spec := "indexFull", unfollowed := true, recurses := true, apart := false }
def IndexFullSaid : Prop := indexFullRow.holds Try.pinned (OpenSpec.ofChange indexFullSpec)

/-- ITS FALSE NEIGHBOUR: 'it returns false'. Refute it at one input. -/
def indexFullWrong : ChangeSpec := { name := "indexFull", fn := fun _ => fun
  | [d1, d2] => { results := [.lit (.bool false)], args := [d1, d2] }
  | _ => none }
def IndexFullWrongFalsely : Prop := indexFullRow.holds Try.pinned (OpenSpec.ofChange indexFullWrong)

/-- 'clinkerlaw09.IndexDrop': WHATEVER THE INPUT: true; the input reads as it did. -/
def indexDropSpec : ChangeSpec := { name := "indexDrop", fn := fun _ => fun
  | [d1, d2, d3, d4] => { results := [.lit (.bool true)], args := [d1, d2, d3, d4] }
  | _ => none }
def indexDropRow : OpenClaim := { program := "ytnmafncghbkogaa", sum := "4741cb0fb8e7ac6ec03f2463cbd80f09abfc39fb821b9fe4a80a539b429c9ac5", func := "clinker/clinkerlaw09.IndexDrop", spec := "indexDrop", unfollowed := true, recurses := true, apart := false }
def IndexDropSaid : Prop := indexDropRow.holds Try.pinned (OpenSpec.ofChange indexDropSpec)

/-- ITS FALSE NEIGHBOUR: 'it returns false'. Refute it at one input. -/
def indexDropWrong : ChangeSpec := { name := "indexDrop", fn := fun _ => fun
  | [d1, d2, d3, d4] => { results := [.lit (.bool false)], args := [d1, d2, d3, d4] }
  | _ => none }
def IndexDropWrongFalsely : Prop := indexDropRow.holds Try.pinned (OpenSpec.ofChange indexDropWrong)

/- THE SECOND FORM. 'bulk': how many values and letters a reading holds, each counted each time it is reached (what is shared counts as often as it is met; a slice's spare places count too). A statement '..UptoSaid' is the law's where the arguments, and the package variables that the reading takes, are together of bulk at most 1048576: NARROWER than '..Said'. Prove '..Said' where nothing that the law and all that it calls make is longer than what came in: it says more and counts as full. Else prove '..UptoSaid'. A law counts once. -/
mutual
def uptoBulk {H : Type} : DataW H → Nat
  | .lit (.string bytes) => bytes.length + 1
  | .lit _ => 1
  | .nil => 1
  | .ptr d => uptoBulk d + 1
  | .slice elems spare => uptoBulkAll elems + uptoBulkAll spare + 1
  | .agg parts => uptoBulkAll parts + 1
  | .iface _ d => uptoBulk d + 1
  | .map entries => uptoBulkEntries entries + 1
  | .held _ => 1
def uptoBulkAll {H : Type} : List (DataW H) → Nat
  | [] => 0
  | d :: r => uptoBulk d + uptoBulkAll r
def uptoBulkEntries {H : Type} : List (Lit × DataW H) → Nat
  | [] => 0
  | x :: r => uptoBulkEntry x + uptoBulkEntries r
def uptoBulkEntry {H : Type} : Lit × DataW H → Nat
  | (.string bytes, d) => bytes.length + uptoBulk d + 1
  | (_, d) => uptoBulk d + 1
 end
def uptoSmall : (H : Type) → List (DataW H) → Bool := fun _ ds => decide (uptoBulkAll ds ≤ 1048576)
def OpenSpec.upto (s : _root_.Go.ChangeSpec) : _root_.Go.OpenSpec := { _root_.Go.OpenSpec.ofChange s with cond := some uptoSmall }

/-- 'clinkerlaw09.IndexKeeps', WHERE WHAT IT READS IS OF BULK AT MOST 1048576: true; the input reads as it did. -/
def indexKeepsUptoRow : OpenClaim := { program := "ytnmafncghbkogaa", sum := "4741cb0fb8e7ac6ec03f2463cbd80f09abfc39fb821b9fe4a80a539b429c9ac5", func := "clinker/clinkerlaw09.IndexKeeps", spec := "indexKeeps", unfollowed := true, recurses := true, apart := false, narrowed := true }
def IndexKeepsUptoSaid : Prop := indexKeepsUptoRow.holds Try.pinned (OpenSpec.upto indexKeepsSpec)

/-- 'clinkerlaw09.IndexFull', WHERE WHAT IT READS IS OF BULK AT MOST 1048576: true; the input reads as it did. -/
def indexFullUptoRow : OpenClaim := { program := "ytnmafncghbkogaa", sum := "4741cb0fb8e7ac6ec03f2463cbd80f09abfc39fb821b9fe4a80a539b429c9ac5", func := "clinker/clinkerlaw09.IndexFull", spec := "indexFull", unfollowed := true, recurses := true, apart := false, narrowed := true }
def IndexFullUptoSaid : Prop := indexFullUptoRow.holds Try.pinned (OpenSpec.upto indexFullSpec)

/-- 'clinkerlaw09.IndexDrop', WHERE WHAT IT READS IS OF BULK AT MOST 1048576: true; the input reads as it did. -/
def indexDropUptoRow : OpenClaim := { program := "ytnmafncghbkogaa", sum := "4741cb0fb8e7ac6ec03f2463cbd80f09abfc39fb821b9fe4a80a539b429c9ac5", func := "clinker/clinkerlaw09.IndexDrop", spec := "indexDrop", unfollowed := true, recurses := true, apart := false, narrowed := true }
def IndexDropUptoSaid : Prop := indexDropUptoRow.holds Try.pinned (OpenSpec.upto indexDropSpec)

end Rows
end Go.Proofs.Ytnmafncghbkogaa
