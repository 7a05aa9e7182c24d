/-
  No cell of these rows narrows 'for every input' (looked for: loops, veiled, ifaces, maps, wideKeys, modest, calm, conditions, laid).
  DERIVED. THE GIVEN ROWS OF THIS SEAT. 6 by the template 'for every input the law returns true; each argument reads behind the call as it read before'; 0 by the template 'total and deterministic' (their statements: YtfolonajajideaaTotals.lean).
  GIVEN WITH THE SEED: the statements are not yours to turn. If you find one false, say at which input.
  Laid BY PROGRAM, IN A SANDBOX (cutbox-rows.mjs): the forced cells as the released guide's own fill.sh prints them over the translation 36fe100b727ad610… (all of the seat's roots in one cut). By AI agents, Wed Nov 11 2026. No macro, syntax, notation, axiom, sorry.
-/
import Derived.Test.YtfolonajajideaaChecked
import GoSem.Claim
import GoSem.ClaimJoined
import GoSem.ClaimMapViews
import Derived.JoinedTies
import Derived.KernelRfl
namespace Go.Proofs.Ytfolonajajideaa
/- THE CELL 'sum', in the pinned program and in every row, IS THE sha256 OF THE DUMP (.gsa) THAT YtfolonajajideaaProg.lean LOADS. Nothing in Lean hashes anything: it is a label: what it is worth is what the hold of that sum in a sandbox is worth. -/
noncomputable def Try.pinned : Pinned := { name := "ytfolonajajideaa", sum := "36fe100b727ad61020468f8b643e150fc4a28e75e98ddc75d07f59b66227e056", checked := Try.checked }
namespace Rows
def none {H : Type} : Left H := { results := [], args := [] }

/-- 'clinkerlaw08.LiveAny': WHATEVER THE INPUT: true; the input reads as it did. -/
def liveAnySpec : ChangeSpec := { name := "liveAny", fn := fun _ => fun
  | [d1, d2, d3] => { results := [.lit (.bool true)], args := [d1, d2, d3] }
  | _ => none }
def liveAnyRow : OpenClaim := { program := "ytfolonajajideaa", sum := "36fe100b727ad61020468f8b643e150fc4a28e75e98ddc75d07f59b66227e056", func := "clinker/clinkerlaw08.LiveAny", spec := "liveAny", unfollowed := true, recurses := true, apart := false }
def LiveAnySaid : Prop := liveAnyRow.holds Try.pinned (OpenSpec.ofChange liveAnySpec)

/-- ITS FALSE NEIGHBOUR: 'it returns false'. Refute it at one input. -/
def liveAnyWrong : ChangeSpec := { name := "liveAny", fn := fun _ => fun
  | [d1, d2, d3] => { results := [.lit (.bool false)], args := [d1, d2, d3] }
  | _ => none }
def LiveAnyWrongFalsely : Prop := liveAnyRow.holds Try.pinned (OpenSpec.ofChange liveAnyWrong)

/-- 'clinkerlaw08.LiveSmall': WHATEVER THE INPUT: true; the input reads as it did. -/
def liveSmallSpec : ChangeSpec := { name := "liveSmall", fn := fun _ => fun
  | [d1, d2, d3] => { results := [.lit (.bool true)], args := [d1, d2, d3] }
  | _ => none }
def liveSmallRow : OpenClaim := { program := "ytfolonajajideaa", sum := "36fe100b727ad61020468f8b643e150fc4a28e75e98ddc75d07f59b66227e056", func := "clinker/clinkerlaw08.LiveSmall", spec := "liveSmall", unfollowed := true, recurses := true, apart := false }
def LiveSmallSaid : Prop := liveSmallRow.holds Try.pinned (OpenSpec.ofChange liveSmallSpec)

/-- ITS FALSE NEIGHBOUR: 'it returns false'. Refute it at one input. -/
def liveSmallWrong : ChangeSpec := { name := "liveSmall", fn := fun _ => fun
  | [d1, d2, d3] => { results := [.lit (.bool false)], args := [d1, d2, d3] }
  | _ => none }
def LiveSmallWrongFalsely : Prop := liveSmallRow.holds Try.pinned (OpenSpec.ofChange liveSmallWrong)

/-- 'clinkerlaw08.LiveBound': WHATEVER THE INPUT: true; the input reads as it did. -/
def liveBoundSpec : ChangeSpec := { name := "liveBound", fn := fun _ => fun
  | [d1, d2] => { results := [.lit (.bool true)], args := [d1, d2] }
  | _ => none }
def liveBoundRow : OpenClaim := { program := "ytfolonajajideaa", sum := "36fe100b727ad61020468f8b643e150fc4a28e75e98ddc75d07f59b66227e056", func := "clinker/clinkerlaw08.LiveBound", spec := "liveBound", unfollowed := true, recurses := true, apart := false }
def LiveBoundSaid : Prop := liveBoundRow.holds Try.pinned (OpenSpec.ofChange liveBoundSpec)

/-- ITS FALSE NEIGHBOUR: 'it returns false'. Refute it at one input. -/
def liveBoundWrong : ChangeSpec := { name := "liveBound", fn := fun _ => fun
  | [d1, d2] => { results := [.lit (.bool false)], args := [d1, d2] }
  | _ => none }
def LiveBoundWrongFalsely : Prop := liveBoundRow.holds Try.pinned (OpenSpec.ofChange liveBoundWrong)

/-- 'clinkerlaw08.LiveData': WHATEVER THE INPUT: true; the input reads as it did. -/
def liveDataSpec : ChangeSpec := { name := "liveData", fn := fun _ => fun
  | [d] => { results := [.lit (.bool true)], args := [d] }
  | _ => none }
def liveDataRow : OpenClaim := { program := "ytfolonajajideaa", sum := "36fe100b727ad61020468f8b643e150fc4a28e75e98ddc75d07f59b66227e056", func := "clinker/clinkerlaw08.LiveData", spec := "liveData", unfollowed := true, recurses := true, apart := false }
def LiveDataSaid : Prop := liveDataRow.holds Try.pinned (OpenSpec.ofChange liveDataSpec)

/-- ITS FALSE NEIGHBOUR: 'it returns false'. Refute it at one input. -/
def liveDataWrong : ChangeSpec := { name := "liveData", fn := fun _ => fun
  | [d] => { results := [.lit (.bool false)], args := [d] }
  | _ => none }
def LiveDataWrongFalsely : Prop := liveDataRow.holds Try.pinned (OpenSpec.ofChange liveDataWrong)

/-- 'clinkerlaw08.LiveParts': WHATEVER THE INPUT: true; the input reads as it did. -/
def livePartsSpec : ChangeSpec := { name := "liveParts", fn := fun _ => fun
  | [d] => { results := [.lit (.bool true)], args := [d] }
  | _ => none }
def livePartsRow : OpenClaim := { program := "ytfolonajajideaa", sum := "36fe100b727ad61020468f8b643e150fc4a28e75e98ddc75d07f59b66227e056", func := "clinker/clinkerlaw08.LiveParts", spec := "liveParts", unfollowed := true, recurses := true, apart := false }
def LivePartsSaid : Prop := livePartsRow.holds Try.pinned (OpenSpec.ofChange livePartsSpec)

/-- ITS FALSE NEIGHBOUR: 'it returns false'. Refute it at one input. -/
def livePartsWrong : ChangeSpec := { name := "liveParts", fn := fun _ => fun
  | [d] => { results := [.lit (.bool false)], args := [d] }
  | _ => none }
def LivePartsWrongFalsely : Prop := livePartsRow.holds Try.pinned (OpenSpec.ofChange livePartsWrong)

/-- 'clinkerlaw08.LiveBlocks': WHATEVER THE INPUT: true; the input reads as it did. -/
def liveBlocksSpec : ChangeSpec := { name := "liveBlocks", fn := fun _ => fun
  | [d1, d2] => { results := [.lit (.bool true)], args := [d1, d2] }
  | _ => none }
def liveBlocksRow : OpenClaim := { program := "ytfolonajajideaa", sum := "36fe100b727ad61020468f8b643e150fc4a28e75e98ddc75d07f59b66227e056", func := "clinker/clinkerlaw08.LiveBlocks", spec := "liveBlocks", unfollowed := true, recurses := true, apart := false }
def LiveBlocksSaid : Prop := liveBlocksRow.holds Try.pinned (OpenSpec.ofChange liveBlocksSpec)

/-- ITS FALSE NEIGHBOUR: 'it returns false'. Refute it at one input. -/
def liveBlocksWrong : ChangeSpec := { name := "liveBlocks", fn := fun _ => fun
  | [d1, d2] => { results := [.lit (.bool false)], args := [d1, d2] }
  | _ => none }
def LiveBlocksWrongFalsely : Prop := liveBlocksRow.holds Try.pinned (OpenSpec.ofChange liveBlocksWrong)

/- THE SECOND FORM. 'bulk': how many values and letters a reading holds, each counted each time it is reached (what is shared counts as often as it is met; a slice's spare places count too). A statement '..UptoSaid' is the law's where the arguments, and the package variables that the reading takes, are together of bulk at most 1048576: NARROWER than '..Said'. Prove '..Said' where nothing that the law and all that it calls make is longer than what came in: it says more and counts as full. Else prove '..UptoSaid'. A law counts once. -/
mutual
def uptoBulk {H : Type} : DataW H → Nat
  | .lit (.string bytes) => bytes.length + 1
  | .lit _ => 1
  | .nil => 1
  | .ptr d => uptoBulk d + 1
  | .slice elems spare => uptoBulkAll elems + uptoBulkAll spare + 1
  | .agg parts => uptoBulkAll parts + 1
  | .iface _ d => uptoBulk d + 1
  | .map entries => uptoBulkEntries entries + 1
  | .held _ => 1
def uptoBulkAll {H : Type} : List (DataW H) → Nat
  | [] => 0
  | d :: r => uptoBulk d + uptoBulkAll r
def uptoBulkEntries {H : Type} : List (Lit × DataW H) → Nat
  | [] => 0
  | x :: r => uptoBulkEntry x + uptoBulkEntries r
def uptoBulkEntry {H : Type} : Lit × DataW H → Nat
  | (.string bytes, d) => bytes.length + uptoBulk d + 1
  | (_, d) => uptoBulk d + 1
 end
def uptoSmall : (H : Type) → List (DataW H) → Bool := fun _ ds => decide (uptoBulkAll ds ≤ 1048576)
def OpenSpec.upto (s : _root_.Go.ChangeSpec) : _root_.Go.OpenSpec := { _root_.Go.OpenSpec.ofChange s with cond := some uptoSmall }

/-- 'clinkerlaw08.LiveAny', WHERE WHAT IT READS IS OF BULK AT MOST 1048576: true; the input reads as it did. -/
def liveAnyUptoRow : OpenClaim := { program := "ytfolonajajideaa", sum := "36fe100b727ad61020468f8b643e150fc4a28e75e98ddc75d07f59b66227e056", func := "clinker/clinkerlaw08.LiveAny", spec := "liveAny", unfollowed := true, recurses := true, apart := false, narrowed := true }
def LiveAnyUptoSaid : Prop := liveAnyUptoRow.holds Try.pinned (OpenSpec.upto liveAnySpec)

/-- 'clinkerlaw08.LiveSmall', WHERE WHAT IT READS IS OF BULK AT MOST 1048576: true; the input reads as it did. -/
def liveSmallUptoRow : OpenClaim := { program := "ytfolonajajideaa", sum := "36fe100b727ad61020468f8b643e150fc4a28e75e98ddc75d07f59b66227e056", func := "clinker/clinkerlaw08.LiveSmall", spec := "liveSmall", unfollowed := true, recurses := true, apart := false, narrowed := true }
def LiveSmallUptoSaid : Prop := liveSmallUptoRow.holds Try.pinned (OpenSpec.upto liveSmallSpec)

/-- 'clinkerlaw08.LiveBound', WHERE WHAT IT READS IS OF BULK AT MOST 1048576: true; the input reads as it did. -/
def liveBoundUptoRow : OpenClaim := { program := "ytfolonajajideaa", sum := "36fe100b727ad61020468f8b643e150fc4a28e75e98ddc75d07f59b66227e056", func := "clinker/clinkerlaw08.LiveBound", spec := "liveBound", unfollowed := true, recurses := true, apart := false, narrowed := true }
def LiveBoundUptoSaid : Prop := liveBoundUptoRow.holds Try.pinned (OpenSpec.upto liveBoundSpec)

/-- 'clinkerlaw08.LiveData', WHERE WHAT IT READS IS OF BULK AT MOST 1048576: true; the input reads as it did. -/
def liveDataUptoRow : OpenClaim := { program := "ytfolonajajideaa", sum := "36fe100b727ad61020468f8b643e150fc4a28e75e98ddc75d07f59b66227e056", func := "clinker/clinkerlaw08.LiveData", spec := "liveData", unfollowed := true, recurses := true, apart := false, narrowed := true }
def LiveDataUptoSaid : Prop := liveDataUptoRow.holds Try.pinned (OpenSpec.upto liveDataSpec)

/-- 'clinkerlaw08.LiveParts', WHERE WHAT IT READS IS OF BULK AT MOST 1048576: true; the input reads as it did. -/
def livePartsUptoRow : OpenClaim := { program := "ytfolonajajideaa", sum := "36fe100b727ad61020468f8b643e150fc4a28e75e98ddc75d07f59b66227e056", func := "clinker/clinkerlaw08.LiveParts", spec := "liveParts", unfollowed := true, recurses := true, apart := false, narrowed := true }
def LivePartsUptoSaid : Prop := livePartsUptoRow.holds Try.pinned (OpenSpec.upto livePartsSpec)

/-- 'clinkerlaw08.LiveBlocks', WHERE WHAT IT READS IS OF BULK AT MOST 1048576: true; the input reads as it did. -/
def liveBlocksUptoRow : OpenClaim := { program := "ytfolonajajideaa", sum := "36fe100b727ad61020468f8b643e150fc4a28e75e98ddc75d07f59b66227e056", func := "clinker/clinkerlaw08.LiveBlocks", spec := "liveBlocks", unfollowed := true, recurses := true, apart := false, narrowed := true }
def LiveBlocksUptoSaid : Prop := liveBlocksUptoRow.holds Try.pinned (OpenSpec.upto liveBlocksSpec)

end Rows
end Go.Proofs.Ytfolonajajideaa
