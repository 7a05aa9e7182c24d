/-
  No cell of these rows narrows 'for every input' (looked for: loops, veiled, ifaces, maps, wideKeys, modest, calm, conditions, laid).
  DERIVED. THE GIVEN ROWS OF THIS SEAT. 9 by the template 'for every input the law returns true; each argument reads behind the call as it read before'; 0 by the template 'total and deterministic' (their statements: YtffcjconjabekaaTotals.lean).
  GIVEN WITH THE SEED: the statements are not yours to turn. If you find one false, say at which input.
  Laid BY PROGRAM, IN A SANDBOX (cutbox-rows.mjs): the forced cells as the released guide's own fill.sh prints them over the translation 50e5da3adf90561d… (all of the seat's roots in one cut). By AI agents, Wed Nov 11 2026. No macro, syntax, notation, axiom, sorry.
-/
import Derived.Test.YtffcjconjabekaaChecked
import GoSem.Claim
import GoSem.ClaimJoined
import GoSem.ClaimMapViews
import Derived.JoinedTies
import Derived.KernelRfl
namespace Go.Proofs.Ytffcjconjabekaa
/- THE CELL 'sum', in the pinned program and in every row, IS THE sha256 OF THE DUMP (.gsa) THAT YtffcjconjabekaaProg.lean LOADS. Nothing in Lean hashes anything: it is a label: what it is worth is what the hold of that sum in a sandbox is worth. -/
noncomputable def Try.pinned : Pinned := { name := "ytffcjconjabekaa", sum := "50e5da3adf90561d1d69d9ef4bed39ceb4d12c7b8d2c8b1369f501134b621489", checked := Try.checked }
namespace Rows
def none {H : Type} : Left H := { results := [], args := [] }

/-- 'clinkerlaw02.PackPut': WHATEVER THE INPUT: true; the input reads as it did. -/
def packPutSpec : ChangeSpec := { name := "packPut", fn := fun _ => fun
  | [d] => { results := [.lit (.bool true)], args := [d] }
  | _ => none }
def packPutRow : OpenClaim := { program := "ytffcjconjabekaa", sum := "50e5da3adf90561d1d69d9ef4bed39ceb4d12c7b8d2c8b1369f501134b621489", func := "clinker/clinkerlaw02.PackPut", spec := "packPut", apart := false }
def PackPutSaid : Prop := packPutRow.holds Try.pinned (OpenSpec.ofChange packPutSpec)

/-- ITS FALSE NEIGHBOUR: 'it returns false'. Refute it at one input. -/
def packPutWrong : ChangeSpec := { name := "packPut", fn := fun _ => fun
  | [d] => { results := [.lit (.bool false)], args := [d] }
  | _ => none }
def PackPutWrongFalsely : Prop := packPutRow.holds Try.pinned (OpenSpec.ofChange packPutWrong)

/-- 'clinkerlaw02.PackPack': WHATEVER THE INPUT: true; the input reads as it did. -/
def packPackSpec : ChangeSpec := { name := "packPack", fn := fun _ => fun
  | [d] => { results := [.lit (.bool true)], args := [d] }
  | _ => none }
def packPackRow : OpenClaim := { program := "ytffcjconjabekaa", sum := "50e5da3adf90561d1d69d9ef4bed39ceb4d12c7b8d2c8b1369f501134b621489", func := "clinker/clinkerlaw02.PackPack", spec := "packPack", apart := false }
def PackPackSaid : Prop := packPackRow.holds Try.pinned (OpenSpec.ofChange packPackSpec)

/-- ITS FALSE NEIGHBOUR: 'it returns false'. Refute it at one input. -/
def packPackWrong : ChangeSpec := { name := "packPack", fn := fun _ => fun
  | [d] => { results := [.lit (.bool false)], args := [d] }
  | _ => none }
def PackPackWrongFalsely : Prop := packPackRow.holds Try.pinned (OpenSpec.ofChange packPackWrong)

/-- 'clinkerlaw02.PackHeads': WHATEVER THE INPUT: true; the input reads as it did. -/
def packHeadsSpec : ChangeSpec := { name := "packHeads", fn := fun _ => fun
  | [d1, d2] => { results := [.lit (.bool true)], args := [d1, d2] }
  | _ => none }
def packHeadsRow : OpenClaim := { program := "ytffcjconjabekaa", sum := "50e5da3adf90561d1d69d9ef4bed39ceb4d12c7b8d2c8b1369f501134b621489", func := "clinker/clinkerlaw02.PackHeads", spec := "packHeads", apart := false }
def PackHeadsSaid : Prop := packHeadsRow.holds Try.pinned (OpenSpec.ofChange packHeadsSpec)

/-- ITS FALSE NEIGHBOUR: 'it returns false'. Refute it at one input. -/
def packHeadsWrong : ChangeSpec := { name := "packHeads", fn := fun _ => fun
  | [d1, d2] => { results := [.lit (.bool false)], args := [d1, d2] }
  | _ => none }
def PackHeadsWrongFalsely : Prop := packHeadsRow.holds Try.pinned (OpenSpec.ofChange packHeadsWrong)

/-- 'clinkerlaw02.PackShort': WHATEVER THE INPUT: true; the input reads as it did. -/
def packShortSpec : ChangeSpec := { name := "packShort", fn := fun _ => fun
  | [d] => { results := [.lit (.bool true)], args := [d] }
  | _ => none }
def packShortRow : OpenClaim := { program := "ytffcjconjabekaa", sum := "50e5da3adf90561d1d69d9ef4bed39ceb4d12c7b8d2c8b1369f501134b621489", func := "clinker/clinkerlaw02.PackShort", spec := "packShort", apart := false }
def PackShortSaid : Prop := packShortRow.holds Try.pinned (OpenSpec.ofChange packShortSpec)

/-- ITS FALSE NEIGHBOUR: 'it returns false'. Refute it at one input. -/
def packShortWrong : ChangeSpec := { name := "packShort", fn := fun _ => fun
  | [d] => { results := [.lit (.bool false)], args := [d] }
  | _ => none }
def PackShortWrongFalsely : Prop := packShortRow.holds Try.pinned (OpenSpec.ofChange packShortWrong)

/-- 'clinkerlaw02.PackTake': WHATEVER THE INPUT: true; the input reads as it did. -/
def packTakeSpec : ChangeSpec := { name := "packTake", fn := fun _ => fun
  | [d] => { results := [.lit (.bool true)], args := [d] }
  | _ => none }
def packTakeRow : OpenClaim := { program := "ytffcjconjabekaa", sum := "50e5da3adf90561d1d69d9ef4bed39ceb4d12c7b8d2c8b1369f501134b621489", func := "clinker/clinkerlaw02.PackTake", spec := "packTake", apart := false }
def PackTakeSaid : Prop := packTakeRow.holds Try.pinned (OpenSpec.ofChange packTakeSpec)

/-- ITS FALSE NEIGHBOUR: 'it returns false'. Refute it at one input. -/
def packTakeWrong : ChangeSpec := { name := "packTake", fn := fun _ => fun
  | [d] => { results := [.lit (.bool false)], args := [d] }
  | _ => none }
def PackTakeWrongFalsely : Prop := packTakeRow.holds Try.pinned (OpenSpec.ofChange packTakeWrong)

/-- 'clinkerlaw02.PackBack': WHATEVER THE INPUT: true; the input reads as it did. -/
def packBackSpec : ChangeSpec := { name := "packBack", fn := fun _ => fun
  | [d1, d2] => { results := [.lit (.bool true)], args := [d1, d2] }
  | _ => none }
def packBackRow : OpenClaim := { program := "ytffcjconjabekaa", sum := "50e5da3adf90561d1d69d9ef4bed39ceb4d12c7b8d2c8b1369f501134b621489", func := "clinker/clinkerlaw02.PackBack", spec := "packBack", apart := false }
def PackBackSaid : Prop := packBackRow.holds Try.pinned (OpenSpec.ofChange packBackSpec)

/-- ITS FALSE NEIGHBOUR: 'it returns false'. Refute it at one input. -/
def packBackWrong : ChangeSpec := { name := "packBack", fn := fun _ => fun
  | [d1, d2] => { results := [.lit (.bool false)], args := [d1, d2] }
  | _ => none }
def PackBackWrongFalsely : Prop := packBackRow.holds Try.pinned (OpenSpec.ofChange packBackWrong)

/-- 'clinkerlaw02.PackAgain': WHATEVER THE INPUT: true; the input reads as it did. -/
def packAgainSpec : ChangeSpec := { name := "packAgain", fn := fun _ => fun
  | [d] => { results := [.lit (.bool true)], args := [d] }
  | _ => none }
def packAgainRow : OpenClaim := { program := "ytffcjconjabekaa", sum := "50e5da3adf90561d1d69d9ef4bed39ceb4d12c7b8d2c8b1369f501134b621489", func := "clinker/clinkerlaw02.PackAgain", spec := "packAgain", apart := false }
def PackAgainSaid : Prop := packAgainRow.holds Try.pinned (OpenSpec.ofChange packAgainSpec)

/-- ITS FALSE NEIGHBOUR: 'it returns false'. Refute it at one input. -/
def packAgainWrong : ChangeSpec := { name := "packAgain", fn := fun _ => fun
  | [d] => { results := [.lit (.bool false)], args := [d] }
  | _ => none }
def PackAgainWrongFalsely : Prop := packAgainRow.holds Try.pinned (OpenSpec.ofChange packAgainWrong)

/-- 'clinkerlaw02.PackCut': WHATEVER THE INPUT: true; the input reads as it did. -/
def packCutSpec : ChangeSpec := { name := "packCut", fn := fun _ => fun
  | [d] => { results := [.lit (.bool true)], args := [d] }
  | _ => none }
def packCutRow : OpenClaim := { program := "ytffcjconjabekaa", sum := "50e5da3adf90561d1d69d9ef4bed39ceb4d12c7b8d2c8b1369f501134b621489", func := "clinker/clinkerlaw02.PackCut", spec := "packCut", apart := false }
def PackCutSaid : Prop := packCutRow.holds Try.pinned (OpenSpec.ofChange packCutSpec)

/-- ITS FALSE NEIGHBOUR: 'it returns false'. Refute it at one input. -/
def packCutWrong : ChangeSpec := { name := "packCut", fn := fun _ => fun
  | [d] => { results := [.lit (.bool false)], args := [d] }
  | _ => none }
def PackCutWrongFalsely : Prop := packCutRow.holds Try.pinned (OpenSpec.ofChange packCutWrong)

/-- 'clinkerlaw02.PackTwo': WHATEVER THE INPUT: true; the input reads as it did. -/
def packTwoSpec : ChangeSpec := { name := "packTwo", fn := fun _ => fun
  | [d1, d2] => { results := [.lit (.bool true)], args := [d1, d2] }
  | _ => none }
def packTwoRow : OpenClaim := { program := "ytffcjconjabekaa", sum := "50e5da3adf90561d1d69d9ef4bed39ceb4d12c7b8d2c8b1369f501134b621489", func := "clinker/clinkerlaw02.PackTwo", spec := "packTwo", apart := false }
def PackTwoSaid : Prop := packTwoRow.holds Try.pinned (OpenSpec.ofChange packTwoSpec)

/-- ITS FALSE NEIGHBOUR: 'it returns false'. Refute it at one input. -/
def packTwoWrong : ChangeSpec := { name := "packTwo", fn := fun _ => fun
  | [d1, d2] => { results := [.lit (.bool false)], args := [d1, d2] }
  | _ => none }
def PackTwoWrongFalsely : Prop := packTwoRow.holds Try.pinned (OpenSpec.ofChange packTwoWrong)

/- THE SECOND FORM. 'bulk': how many values and letters a reading holds, each counted each time it is reached (what is shared counts as often as it is met; a slice's spare places count too). A statement '..UptoSaid' is the law's where the arguments, and the package variables that the reading takes, are together of bulk at most 1048576: NARROWER than '..Said'. Prove '..Said' where nothing that the law and all that it calls make is longer than what came in: it says more and counts as full. Else prove '..UptoSaid'. A law counts once. -/
mutual
def uptoBulk {H : Type} : DataW H → Nat
  | .lit (.string bytes) => bytes.length + 1
  | .lit _ => 1
  | .nil => 1
  | .ptr d => uptoBulk d + 1
  | .slice elems spare => uptoBulkAll elems + uptoBulkAll spare + 1
  | .agg parts => uptoBulkAll parts + 1
  | .iface _ d => uptoBulk d + 1
  | .map entries => uptoBulkEntries entries + 1
  | .held _ => 1
def uptoBulkAll {H : Type} : List (DataW H) → Nat
  | [] => 0
  | d :: r => uptoBulk d + uptoBulkAll r
def uptoBulkEntries {H : Type} : List (Lit × DataW H) → Nat
  | [] => 0
  | x :: r => uptoBulkEntry x + uptoBulkEntries r
def uptoBulkEntry {H : Type} : Lit × DataW H → Nat
  | (.string bytes, d) => bytes.length + uptoBulk d + 1
  | (_, d) => uptoBulk d + 1
 end
def uptoSmall : (H : Type) → List (DataW H) → Bool := fun _ ds => decide (uptoBulkAll ds ≤ 1048576)
def OpenSpec.upto (s : _root_.Go.ChangeSpec) : _root_.Go.OpenSpec := { _root_.Go.OpenSpec.ofChange s with cond := some uptoSmall }

/-- 'clinkerlaw02.PackPut', WHERE WHAT IT READS IS OF BULK AT MOST 1048576: true; the input reads as it did. -/
def packPutUptoRow : OpenClaim := { program := "ytffcjconjabekaa", sum := "50e5da3adf90561d1d69d9ef4bed39ceb4d12c7b8d2c8b1369f501134b621489", func := "clinker/clinkerlaw02.PackPut", spec := "packPut", apart := false, narrowed := true }
def PackPutUptoSaid : Prop := packPutUptoRow.holds Try.pinned (OpenSpec.upto packPutSpec)

/-- 'clinkerlaw02.PackPack', WHERE WHAT IT READS IS OF BULK AT MOST 1048576: true; the input reads as it did. -/
def packPackUptoRow : OpenClaim := { program := "ytffcjconjabekaa", sum := "50e5da3adf90561d1d69d9ef4bed39ceb4d12c7b8d2c8b1369f501134b621489", func := "clinker/clinkerlaw02.PackPack", spec := "packPack", apart := false, narrowed := true }
def PackPackUptoSaid : Prop := packPackUptoRow.holds Try.pinned (OpenSpec.upto packPackSpec)

/-- 'clinkerlaw02.PackHeads', WHERE WHAT IT READS IS OF BULK AT MOST 1048576: true; the input reads as it did. -/
def packHeadsUptoRow : OpenClaim := { program := "ytffcjconjabekaa", sum := "50e5da3adf90561d1d69d9ef4bed39ceb4d12c7b8d2c8b1369f501134b621489", func := "clinker/clinkerlaw02.PackHeads", spec := "packHeads", apart := false, narrowed := true }
def PackHeadsUptoSaid : Prop := packHeadsUptoRow.holds Try.pinned (OpenSpec.upto packHeadsSpec)

/-- 'clinkerlaw02.PackShort', WHERE WHAT IT READS IS OF BULK AT MOST 1048576: true; the input reads as it did. -/
def packShortUptoRow : OpenClaim := { program := "ytffcjconjabekaa", sum := "50e5da3adf90561d1d69d9ef4bed39ceb4d12c7b8d2c8b1369f501134b621489", func := "clinker/clinkerlaw02.PackShort", spec := "packShort", apart := false, narrowed := true }
def PackShortUptoSaid : Prop := packShortUptoRow.holds Try.pinned (OpenSpec.upto packShortSpec)

/-- 'clinkerlaw02.PackTake', WHERE WHAT IT READS IS OF BULK AT MOST 1048576: true; the input reads as it did. -/
def packTakeUptoRow : OpenClaim := { program := "ytffcjconjabekaa", sum := "50e5da3adf90561d1d69d9ef4bed39ceb4d12c7b8d2c8b1369f501134b621489", func := "clinker/clinkerlaw02.PackTake", spec := "packTake", apart := false, narrowed := true }
def PackTakeUptoSaid : Prop := packTakeUptoRow.holds Try.pinned (OpenSpec.upto packTakeSpec)

/-- 'clinkerlaw02.PackBack', WHERE WHAT IT READS IS OF BULK AT MOST 1048576: true; the input reads as it did. -/
def packBackUptoRow : OpenClaim := { program := "ytffcjconjabekaa", sum := "50e5da3adf90561d1d69d9ef4bed39ceb4d12c7b8d2c8b1369f501134b621489", func := "clinker/clinkerlaw02.PackBack", spec := "packBack", apart := false, narrowed := true }
def PackBackUptoSaid : Prop := packBackUptoRow.holds Try.pinned (OpenSpec.upto packBackSpec)

/-- 'clinkerlaw02.PackAgain', WHERE WHAT IT READS IS OF BULK AT MOST 1048576: true; the input reads as it did. -/
def packAgainUptoRow : OpenClaim := { program := "ytffcjconjabekaa", sum := "50e5da3adf90561d1d69d9ef4bed39ceb4d12c7b8d2c8b1369f501134b621489", func := "clinker/clinkerlaw02.PackAgain", spec := "packAgain", apart := false, narrowed := true }
def PackAgainUptoSaid : Prop := packAgainUptoRow.holds Try.pinned (OpenSpec.upto packAgainSpec)

/-- 'clinkerlaw02.PackCut', WHERE WHAT IT READS IS OF BULK AT MOST 1048576: true; the input reads as it did. -/
def packCutUptoRow : OpenClaim := { program := "ytffcjconjabekaa", sum := "50e5da3adf90561d1d69d9ef4bed39ceb4d12c7b8d2c8b1369f501134b621489", func := "clinker/clinkerlaw02.PackCut", spec := "packCut", apart := false, narrowed := true }
def PackCutUptoSaid : Prop := packCutUptoRow.holds Try.pinned (OpenSpec.upto packCutSpec)

/-- 'clinkerlaw02.PackTwo', WHERE WHAT IT READS IS OF BULK AT MOST 1048576: true; the input reads as it did. -/
def packTwoUptoRow : OpenClaim := { program := "ytffcjconjabekaa", sum := "50e5da3adf90561d1d69d9ef4bed39ceb4d12c7b8d2c8b1369f501134b621489", func := "clinker/clinkerlaw02.PackTwo", spec := "packTwo", apart := false, narrowed := true }
def PackTwoUptoSaid : Prop := packTwoUptoRow.holds Try.pinned (OpenSpec.upto packTwoSpec)

end Rows
end Go.Proofs.Ytffcjconjabekaa
