/-
  No cell of these rows narrows 'for every input' (looked for: loops, veiled, ifaces, maps, wideKeys, modest, calm, conditions, laid).
  DERIVED. THE GIVEN ROWS OF THIS SEAT. 4 by the template 'for every input the law returns true; each argument reads behind the call as it read before'; 0 by the template 'total and deterministic' (their statements: YtpbmcienlbdcbaaTotals.lean).
  GIVEN WITH THE SEED: the statements are not yours to turn. If you find one false, say at which input.
  Laid BY PROGRAM, IN A SANDBOX (cutbox-rows.mjs): the forced cells as the released guide's own fill.sh prints them over the translation 102c118a42a52e72… (all of the seat's roots in one cut). By AI agents, Wed Nov 11 2026. No macro, syntax, notation, axiom, sorry.
-/
import Derived.Test.YtpbmcienlbdcbaaChecked
import GoSem.Claim
import GoSem.ClaimJoined
import GoSem.ClaimMapViews
import Derived.JoinedTies
import Derived.KernelRfl
namespace Go.Proofs.Ytpbmcienlbdcbaa
/- THE CELL 'sum', in the pinned program and in every row, IS THE sha256 OF THE DUMP (.gsa) THAT YtpbmcienlbdcbaaProg.lean LOADS. Nothing in Lean hashes anything: it is a label: what it is worth is what the hold of that sum in a sandbox is worth. -/
noncomputable def Try.pinned : Pinned := { name := "ytpbmcienlbdcbaa", sum := "102c118a42a52e7257efc91ba2f00e208bd4350b65eb9ab3d547e370a3723969", checked := Try.checked }
namespace Rows
def none {H : Type} : Left H := { results := [], args := [] }

/-- 'clinkerlaw04.LookAny': WHATEVER THE INPUT: true; the input reads as it did. -/
def lookAnySpec : ChangeSpec := { name := "lookAny", fn := fun _ => fun
  | [d] => { results := [.lit (.bool true)], args := [d] }
  | _ => none }
def lookAnyRow : OpenClaim := { program := "ytpbmcienlbdcbaa", sum := "102c118a42a52e7257efc91ba2f00e208bd4350b65eb9ab3d547e370a3723969", func := "clinker/clinkerlaw04.LookAny", spec := "lookAny", unfollowed := true, recurses := true, apart := false }
def LookAnySaid : Prop := lookAnyRow.holds Try.pinned (OpenSpec.ofChange lookAnySpec)

/-- ITS FALSE NEIGHBOUR: 'it returns false'. Refute it at one input. -/
def lookAnyWrong : ChangeSpec := { name := "lookAny", fn := fun _ => fun
  | [d] => { results := [.lit (.bool false)], args := [d] }
  | _ => none }
def LookAnyWrongFalsely : Prop := lookAnyRow.holds Try.pinned (OpenSpec.ofChange lookAnyWrong)

/-- 'clinkerlaw04.LookMake': WHATEVER THE INPUT: true; the input reads as it did. -/
def lookMakeSpec : ChangeSpec := { name := "lookMake", fn := fun _ => fun
  | [d1, d2] => { results := [.lit (.bool true)], args := [d1, d2] }
  | _ => none }
def lookMakeRow : OpenClaim := { program := "ytpbmcienlbdcbaa", sum := "102c118a42a52e7257efc91ba2f00e208bd4350b65eb9ab3d547e370a3723969", func := "clinker/clinkerlaw04.LookMake", spec := "lookMake", unfollowed := true, recurses := true, apart := false }
def LookMakeSaid : Prop := lookMakeRow.holds Try.pinned (OpenSpec.ofChange lookMakeSpec)

/-- ITS FALSE NEIGHBOUR: 'it returns false'. Refute it at one input. -/
def lookMakeWrong : ChangeSpec := { name := "lookMake", fn := fun _ => fun
  | [d1, d2] => { results := [.lit (.bool false)], args := [d1, d2] }
  | _ => none }
def LookMakeWrongFalsely : Prop := lookMakeRow.holds Try.pinned (OpenSpec.ofChange lookMakeWrong)

/-- 'clinkerlaw04.LookSpoilt': WHATEVER THE INPUT: true; the input reads as it did. -/
def lookSpoiltSpec : ChangeSpec := { name := "lookSpoilt", fn := fun _ => fun
  | [d1, d2, d3, d4] => { results := [.lit (.bool true)], args := [d1, d2, d3, d4] }
  | _ => none }
def lookSpoiltRow : OpenClaim := { program := "ytpbmcienlbdcbaa", sum := "102c118a42a52e7257efc91ba2f00e208bd4350b65eb9ab3d547e370a3723969", func := "clinker/clinkerlaw04.LookSpoilt", spec := "lookSpoilt", unfollowed := true, recurses := true, apart := false }
def LookSpoiltSaid : Prop := lookSpoiltRow.holds Try.pinned (OpenSpec.ofChange lookSpoiltSpec)

/-- ITS FALSE NEIGHBOUR: 'it returns false'. Refute it at one input. -/
def lookSpoiltWrong : ChangeSpec := { name := "lookSpoilt", fn := fun _ => fun
  | [d1, d2, d3, d4] => { results := [.lit (.bool false)], args := [d1, d2, d3, d4] }
  | _ => none }
def LookSpoiltWrongFalsely : Prop := lookSpoiltRow.holds Try.pinned (OpenSpec.ofChange lookSpoiltWrong)

/-- 'clinkerlaw04.LookTags': WHATEVER THE INPUT: true; the input reads as it did. -/
def lookTagsSpec : ChangeSpec := { name := "lookTags", fn := fun _ => fun
  | [d1, d2, d3, d4] => { results := [.lit (.bool true)], args := [d1, d2, d3, d4] }
  | _ => none }
def lookTagsRow : OpenClaim := { program := "ytpbmcienlbdcbaa", sum := "102c118a42a52e7257efc91ba2f00e208bd4350b65eb9ab3d547e370a3723969", func := "clinker/clinkerlaw04.LookTags", spec := "lookTags", unfollowed := true, recurses := true, apart := false }
def LookTagsSaid : Prop := lookTagsRow.holds Try.pinned (OpenSpec.ofChange lookTagsSpec)

/-- ITS FALSE NEIGHBOUR: 'it returns false'. Refute it at one input. -/
def lookTagsWrong : ChangeSpec := { name := "lookTags", fn := fun _ => fun
  | [d1, d2, d3, d4] => { results := [.lit (.bool false)], args := [d1, d2, d3, d4] }
  | _ => none }
def LookTagsWrongFalsely : Prop := lookTagsRow.holds Try.pinned (OpenSpec.ofChange lookTagsWrong)

/- THE SECOND FORM. 'bulk': how many values and letters a reading holds, each counted each time it is reached (what is shared counts as often as it is met; a slice's spare places count too). A statement '..UptoSaid' is the law's where the arguments, and the package variables that the reading takes, are together of bulk at most 1048576: NARROWER than '..Said'. Prove '..Said' where nothing that the law and all that it calls make is longer than what came in: it says more and counts as full. Else prove '..UptoSaid'. A law counts once. -/
mutual
def uptoBulk {H : Type} : DataW H → Nat
  | .lit (.string bytes) => bytes.length + 1
  | .lit _ => 1
  | .nil => 1
  | .ptr d => uptoBulk d + 1
  | .slice elems spare => uptoBulkAll elems + uptoBulkAll spare + 1
  | .agg parts => uptoBulkAll parts + 1
  | .iface _ d => uptoBulk d + 1
  | .map entries => uptoBulkEntries entries + 1
  | .held _ => 1
def uptoBulkAll {H : Type} : List (DataW H) → Nat
  | [] => 0
  | d :: r => uptoBulk d + uptoBulkAll r
def uptoBulkEntries {H : Type} : List (Lit × DataW H) → Nat
  | [] => 0
  | x :: r => uptoBulkEntry x + uptoBulkEntries r
def uptoBulkEntry {H : Type} : Lit × DataW H → Nat
  | (.string bytes, d) => bytes.length + uptoBulk d + 1
  | (_, d) => uptoBulk d + 1
 end
def uptoSmall : (H : Type) → List (DataW H) → Bool := fun _ ds => decide (uptoBulkAll ds ≤ 1048576)
def OpenSpec.upto (s : _root_.Go.ChangeSpec) : _root_.Go.OpenSpec := { _root_.Go.OpenSpec.ofChange s with cond := some uptoSmall }

/-- 'clinkerlaw04.LookAny', WHERE WHAT IT READS IS OF BULK AT MOST 1048576: true; the input reads as it did. -/
def lookAnyUptoRow : OpenClaim := { program := "ytpbmcienlbdcbaa", sum := "102c118a42a52e7257efc91ba2f00e208bd4350b65eb9ab3d547e370a3723969", func := "clinker/clinkerlaw04.LookAny", spec := "lookAny", unfollowed := true, recurses := true, apart := false, narrowed := true }
def LookAnyUptoSaid : Prop := lookAnyUptoRow.holds Try.pinned (OpenSpec.upto lookAnySpec)

/-- 'clinkerlaw04.LookMake', WHERE WHAT IT READS IS OF BULK AT MOST 1048576: true; the input reads as it did. -/
def lookMakeUptoRow : OpenClaim := { program := "ytpbmcienlbdcbaa", sum := "102c118a42a52e7257efc91ba2f00e208bd4350b65eb9ab3d547e370a3723969", func := "clinker/clinkerlaw04.LookMake", spec := "lookMake", unfollowed := true, recurses := true, apart := false, narrowed := true }
def LookMakeUptoSaid : Prop := lookMakeUptoRow.holds Try.pinned (OpenSpec.upto lookMakeSpec)

/-- 'clinkerlaw04.LookSpoilt', WHERE WHAT IT READS IS OF BULK AT MOST 1048576: true; the input reads as it did. -/
def lookSpoiltUptoRow : OpenClaim := { program := "ytpbmcienlbdcbaa", sum := "102c118a42a52e7257efc91ba2f00e208bd4350b65eb9ab3d547e370a3723969", func := "clinker/clinkerlaw04.LookSpoilt", spec := "lookSpoilt", unfollowed := true, recurses := true, apart := false, narrowed := true }
def LookSpoiltUptoSaid : Prop := lookSpoiltUptoRow.holds Try.pinned (OpenSpec.upto lookSpoiltSpec)

/-- 'clinkerlaw04.LookTags', WHERE WHAT IT READS IS OF BULK AT MOST 1048576: true; the input reads as it did. -/
def lookTagsUptoRow : OpenClaim := { program := "ytpbmcienlbdcbaa", sum := "102c118a42a52e7257efc91ba2f00e208bd4350b65eb9ab3d547e370a3723969", func := "clinker/clinkerlaw04.LookTags", spec := "lookTags", unfollowed := true, recurses := true, apart := false, narrowed := true }
def LookTagsUptoSaid : Prop := lookTagsUptoRow.holds Try.pinned (OpenSpec.upto lookTagsSpec)

end Rows
end Go.Proofs.Ytpbmcienlbdcbaa
