/-
  No cell of these rows narrows 'for every input' (looked for: loops, veiled, ifaces, maps, wideKeys, modest, calm, conditions, laid).
  DERIVED. THE GIVEN ROWS OF THIS SEAT. 8 by the template 'for every input the law returns true; each argument reads behind the call as it read before'; 0 by the template 'total and deterministic' (their statements: YtejhgjmapnmigaaTotals.lean).
  GIVEN WITH THE SEED: the statements are not yours to turn. If you find one false, say at which input.
  Laid BY PROGRAM, IN A SANDBOX (cutbox-rows.mjs): the forced cells as the released guide's own fill.sh prints them over the translation 5a6038be18f8e3af… (all of the seat's roots in one cut). By AI agents, Wed Nov 11 2026. No macro, syntax, notation, axiom, sorry.
-/
import Derived.Test.YtejhgjmapnmigaaChecked
import GoSem.Claim
import GoSem.ClaimJoined
import GoSem.ClaimMapViews
import Derived.JoinedTies
import Derived.KernelRfl
namespace Go.Proofs.Ytejhgjmapnmigaa
/- THE CELL 'sum', in the pinned program and in every row, IS THE sha256 OF THE DUMP (.gsa) THAT YtejhgjmapnmigaaProg.lean LOADS. Nothing in Lean hashes anything: it is a label: what it is worth is what the hold of that sum in a sandbox is worth. -/
noncomputable def Try.pinned : Pinned := { name := "ytejhgjmapnmigaa", sum := "5a6038be18f8e3af038758ec4a042c8896058227d382e2845c469e3b3ca607d9", checked := Try.checked }
namespace Rows
def none {H : Type} : Left H := { results := [], args := [] }

/-- 'clinkerlaw03.TagAny': WHATEVER THE INPUT: true; the input reads as it did. -/
def tagAnySpec : ChangeSpec := { name := "tagAny", fn := fun _ => fun
  | [d1, d2] => { results := [.lit (.bool true)], args := [d1, d2] }
  | _ => none }
def tagAnyRow : OpenClaim := { program := "ytejhgjmapnmigaa", sum := "5a6038be18f8e3af038758ec4a042c8896058227d382e2845c469e3b3ca607d9", func := "clinker/clinkerlaw03.TagAny", spec := "tagAny", unfollowed := true, recurses := true, apart := false }
def TagAnySaid : Prop := tagAnyRow.holds Try.pinned (OpenSpec.ofChange tagAnySpec)

/-- ITS FALSE NEIGHBOUR: 'it returns false'. Refute it at one input. -/
def tagAnyWrong : ChangeSpec := { name := "tagAny", fn := fun _ => fun
  | [d1, d2] => { results := [.lit (.bool false)], args := [d1, d2] }
  | _ => none }
def TagAnyWrongFalsely : Prop := tagAnyRow.holds Try.pinned (OpenSpec.ofChange tagAnyWrong)

/-- 'clinkerlaw03.TagMade': WHATEVER THE INPUT: true; the input reads as it did. -/
def tagMadeSpec : ChangeSpec := { name := "tagMade", fn := fun _ => fun
  | [d1, d2, d3, d4] => { results := [.lit (.bool true)], args := [d1, d2, d3, d4] }
  | _ => none }
def tagMadeRow : OpenClaim := { program := "ytejhgjmapnmigaa", sum := "5a6038be18f8e3af038758ec4a042c8896058227d382e2845c469e3b3ca607d9", func := "clinker/clinkerlaw03.TagMade", spec := "tagMade", unfollowed := true, recurses := true, apart := false }
def TagMadeSaid : Prop := tagMadeRow.holds Try.pinned (OpenSpec.ofChange tagMadeSpec)

/-- ITS FALSE NEIGHBOUR: 'it returns false'. Refute it at one input. -/
def tagMadeWrong : ChangeSpec := { name := "tagMade", fn := fun _ => fun
  | [d1, d2, d3, d4] => { results := [.lit (.bool false)], args := [d1, d2, d3, d4] }
  | _ => none }
def TagMadeWrongFalsely : Prop := tagMadeRow.holds Try.pinned (OpenSpec.ofChange tagMadeWrong)

/-- 'clinkerlaw03.TagDecode': WHATEVER THE INPUT: true; the input reads as it did. -/
def tagDecodeSpec : ChangeSpec := { name := "tagDecode", fn := fun _ => fun
  | [d1, d2] => { results := [.lit (.bool true)], args := [d1, d2] }
  | _ => none }
def tagDecodeRow : OpenClaim := { program := "ytejhgjmapnmigaa", sum := "5a6038be18f8e3af038758ec4a042c8896058227d382e2845c469e3b3ca607d9", func := "clinker/clinkerlaw03.TagDecode", spec := "tagDecode", unfollowed := true, recurses := true, apart := false }
def TagDecodeSaid : Prop := tagDecodeRow.holds Try.pinned (OpenSpec.ofChange tagDecodeSpec)

/-- ITS FALSE NEIGHBOUR: 'it returns false'. Refute it at one input. -/
def tagDecodeWrong : ChangeSpec := { name := "tagDecode", fn := fun _ => fun
  | [d1, d2] => { results := [.lit (.bool false)], args := [d1, d2] }
  | _ => none }
def TagDecodeWrongFalsely : Prop := tagDecodeRow.holds Try.pinned (OpenSpec.ofChange tagDecodeWrong)

/-- 'clinkerlaw03.TagBack': WHATEVER THE INPUT: true; the input reads as it did. -/
def tagBackSpec : ChangeSpec := { name := "tagBack", fn := fun _ => fun
  | [d1, d2] => { results := [.lit (.bool true)], args := [d1, d2] }
  | _ => none }
def tagBackRow : OpenClaim := { program := "ytejhgjmapnmigaa", sum := "5a6038be18f8e3af038758ec4a042c8896058227d382e2845c469e3b3ca607d9", func := "clinker/clinkerlaw03.TagBack", spec := "tagBack", unfollowed := true, recurses := true, apart := false }
def TagBackSaid : Prop := tagBackRow.holds Try.pinned (OpenSpec.ofChange tagBackSpec)

/-- ITS FALSE NEIGHBOUR: 'it returns false'. Refute it at one input. -/
def tagBackWrong : ChangeSpec := { name := "tagBack", fn := fun _ => fun
  | [d1, d2] => { results := [.lit (.bool false)], args := [d1, d2] }
  | _ => none }
def TagBackWrongFalsely : Prop := tagBackRow.holds Try.pinned (OpenSpec.ofChange tagBackWrong)

/-- 'clinkerlaw03.TagSpoilt': WHATEVER THE INPUT: true; the input reads as it did. -/
def tagSpoiltSpec : ChangeSpec := { name := "tagSpoilt", fn := fun _ => fun
  | [d1, d2, d3, d4] => { results := [.lit (.bool true)], args := [d1, d2, d3, d4] }
  | _ => none }
def tagSpoiltRow : OpenClaim := { program := "ytejhgjmapnmigaa", sum := "5a6038be18f8e3af038758ec4a042c8896058227d382e2845c469e3b3ca607d9", func := "clinker/clinkerlaw03.TagSpoilt", spec := "tagSpoilt", unfollowed := true, recurses := true, apart := false }
def TagSpoiltSaid : Prop := tagSpoiltRow.holds Try.pinned (OpenSpec.ofChange tagSpoiltSpec)

/-- ITS FALSE NEIGHBOUR: 'it returns false'. Refute it at one input. -/
def tagSpoiltWrong : ChangeSpec := { name := "tagSpoilt", fn := fun _ => fun
  | [d1, d2, d3, d4] => { results := [.lit (.bool false)], args := [d1, d2, d3, d4] }
  | _ => none }
def TagSpoiltWrongFalsely : Prop := tagSpoiltRow.holds Try.pinned (OpenSpec.ofChange tagSpoiltWrong)

/-- 'clinkerlaw03.TagApart': WHATEVER THE INPUT: true; the input reads as it did. -/
def tagApartSpec : ChangeSpec := { name := "tagApart", fn := fun _ => fun
  | [d1, d2, d3] => { results := [.lit (.bool true)], args := [d1, d2, d3] }
  | _ => none }
def tagApartRow : OpenClaim := { program := "ytejhgjmapnmigaa", sum := "5a6038be18f8e3af038758ec4a042c8896058227d382e2845c469e3b3ca607d9", func := "clinker/clinkerlaw03.TagApart", spec := "tagApart", unfollowed := true, recurses := true, apart := false }
def TagApartSaid : Prop := tagApartRow.holds Try.pinned (OpenSpec.ofChange tagApartSpec)

/-- ITS FALSE NEIGHBOUR: 'it returns false'. Refute it at one input. -/
def tagApartWrong : ChangeSpec := { name := "tagApart", fn := fun _ => fun
  | [d1, d2, d3] => { results := [.lit (.bool false)], args := [d1, d2, d3] }
  | _ => none }
def TagApartWrongFalsely : Prop := tagApartRow.holds Try.pinned (OpenSpec.ofChange tagApartWrong)

/-- 'clinkerlaw03.TagKeys': WHATEVER THE INPUT: true; the input reads as it did. -/
def tagKeysSpec : ChangeSpec := { name := "tagKeys", fn := fun _ => fun
  | [d1, d2, d3, d4] => { results := [.lit (.bool true)], args := [d1, d2, d3, d4] }
  | _ => none }
def tagKeysRow : OpenClaim := { program := "ytejhgjmapnmigaa", sum := "5a6038be18f8e3af038758ec4a042c8896058227d382e2845c469e3b3ca607d9", func := "clinker/clinkerlaw03.TagKeys", spec := "tagKeys", unfollowed := true, recurses := true, apart := false }
def TagKeysSaid : Prop := tagKeysRow.holds Try.pinned (OpenSpec.ofChange tagKeysSpec)

/-- ITS FALSE NEIGHBOUR: 'it returns false'. Refute it at one input. -/
def tagKeysWrong : ChangeSpec := { name := "tagKeys", fn := fun _ => fun
  | [d1, d2, d3, d4] => { results := [.lit (.bool false)], args := [d1, d2, d3, d4] }
  | _ => none }
def TagKeysWrongFalsely : Prop := tagKeysRow.holds Try.pinned (OpenSpec.ofChange tagKeysWrong)

/-- 'clinkerlaw03.TagLong': WHATEVER THE INPUT: true; the input reads as it did. -/
def tagLongSpec : ChangeSpec := { name := "tagLong", fn := fun _ => fun
  | [d1, d2] => { results := [.lit (.bool true)], args := [d1, d2] }
  | _ => none }
def tagLongRow : OpenClaim := { program := "ytejhgjmapnmigaa", sum := "5a6038be18f8e3af038758ec4a042c8896058227d382e2845c469e3b3ca607d9", func := "clinker/clinkerlaw03.TagLong", spec := "tagLong", unfollowed := true, recurses := true, apart := false }
def TagLongSaid : Prop := tagLongRow.holds Try.pinned (OpenSpec.ofChange tagLongSpec)

/-- ITS FALSE NEIGHBOUR: 'it returns false'. Refute it at one input. -/
def tagLongWrong : ChangeSpec := { name := "tagLong", fn := fun _ => fun
  | [d1, d2] => { results := [.lit (.bool false)], args := [d1, d2] }
  | _ => none }
def TagLongWrongFalsely : Prop := tagLongRow.holds Try.pinned (OpenSpec.ofChange tagLongWrong)

/- THE SECOND FORM. 'bulk': how many values and letters a reading holds, each counted each time it is reached (what is shared counts as often as it is met; a slice's spare places count too). A statement '..UptoSaid' is the law's where the arguments, and the package variables that the reading takes, are together of bulk at most 1048576: NARROWER than '..Said'. Prove '..Said' where nothing that the law and all that it calls make is longer than what came in: it says more and counts as full. Else prove '..UptoSaid'. A law counts once. -/
mutual
def uptoBulk {H : Type} : DataW H → Nat
  | .lit (.string bytes) => bytes.length + 1
  | .lit _ => 1
  | .nil => 1
  | .ptr d => uptoBulk d + 1
  | .slice elems spare => uptoBulkAll elems + uptoBulkAll spare + 1
  | .agg parts => uptoBulkAll parts + 1
  | .iface _ d => uptoBulk d + 1
  | .map entries => uptoBulkEntries entries + 1
  | .held _ => 1
def uptoBulkAll {H : Type} : List (DataW H) → Nat
  | [] => 0
  | d :: r => uptoBulk d + uptoBulkAll r
def uptoBulkEntries {H : Type} : List (Lit × DataW H) → Nat
  | [] => 0
  | x :: r => uptoBulkEntry x + uptoBulkEntries r
def uptoBulkEntry {H : Type} : Lit × DataW H → Nat
  | (.string bytes, d) => bytes.length + uptoBulk d + 1
  | (_, d) => uptoBulk d + 1
 end
def uptoSmall : (H : Type) → List (DataW H) → Bool := fun _ ds => decide (uptoBulkAll ds ≤ 1048576)
def OpenSpec.upto (s : _root_.Go.ChangeSpec) : _root_.Go.OpenSpec := { _root_.Go.OpenSpec.ofChange s with cond := some uptoSmall }

/-- 'clinkerlaw03.TagAny', WHERE WHAT IT READS IS OF BULK AT MOST 1048576: true; the input reads as it did. -/
def tagAnyUptoRow : OpenClaim := { program := "ytejhgjmapnmigaa", sum := "5a6038be18f8e3af038758ec4a042c8896058227d382e2845c469e3b3ca607d9", func := "clinker/clinkerlaw03.TagAny", spec := "tagAny", unfollowed := true, recurses := true, apart := false, narrowed := true }
def TagAnyUptoSaid : Prop := tagAnyUptoRow.holds Try.pinned (OpenSpec.upto tagAnySpec)

/-- 'clinkerlaw03.TagMade', WHERE WHAT IT READS IS OF BULK AT MOST 1048576: true; the input reads as it did. -/
def tagMadeUptoRow : OpenClaim := { program := "ytejhgjmapnmigaa", sum := "5a6038be18f8e3af038758ec4a042c8896058227d382e2845c469e3b3ca607d9", func := "clinker/clinkerlaw03.TagMade", spec := "tagMade", unfollowed := true, recurses := true, apart := false, narrowed := true }
def TagMadeUptoSaid : Prop := tagMadeUptoRow.holds Try.pinned (OpenSpec.upto tagMadeSpec)

/-- 'clinkerlaw03.TagDecode', WHERE WHAT IT READS IS OF BULK AT MOST 1048576: true; the input reads as it did. -/
def tagDecodeUptoRow : OpenClaim := { program := "ytejhgjmapnmigaa", sum := "5a6038be18f8e3af038758ec4a042c8896058227d382e2845c469e3b3ca607d9", func := "clinker/clinkerlaw03.TagDecode", spec := "tagDecode", unfollowed := true, recurses := true, apart := false, narrowed := true }
def TagDecodeUptoSaid : Prop := tagDecodeUptoRow.holds Try.pinned (OpenSpec.upto tagDecodeSpec)

/-- 'clinkerlaw03.TagBack', WHERE WHAT IT READS IS OF BULK AT MOST 1048576: true; the input reads as it did. -/
def tagBackUptoRow : OpenClaim := { program := "ytejhgjmapnmigaa", sum := "5a6038be18f8e3af038758ec4a042c8896058227d382e2845c469e3b3ca607d9", func := "clinker/clinkerlaw03.TagBack", spec := "tagBack", unfollowed := true, recurses := true, apart := false, narrowed := true }
def TagBackUptoSaid : Prop := tagBackUptoRow.holds Try.pinned (OpenSpec.upto tagBackSpec)

/-- 'clinkerlaw03.TagSpoilt', WHERE WHAT IT READS IS OF BULK AT MOST 1048576: true; the input reads as it did. -/
def tagSpoiltUptoRow : OpenClaim := { program := "ytejhgjmapnmigaa", sum := "5a6038be18f8e3af038758ec4a042c8896058227d382e2845c469e3b3ca607d9", func := "clinker/clinkerlaw03.TagSpoilt", spec := "tagSpoilt", unfollowed := true, recurses := true, apart := false, narrowed := true }
def TagSpoiltUptoSaid : Prop := tagSpoiltUptoRow.holds Try.pinned (OpenSpec.upto tagSpoiltSpec)

/-- 'clinkerlaw03.TagApart', WHERE WHAT IT READS IS OF BULK AT MOST 1048576: true; the input reads as it did. -/
def tagApartUptoRow : OpenClaim := { program := "ytejhgjmapnmigaa", sum := "5a6038be18f8e3af038758ec4a042c8896058227d382e2845c469e3b3ca607d9", func := "clinker/clinkerlaw03.TagApart", spec := "tagApart", unfollowed := true, recurses := true, apart := false, narrowed := true }
def TagApartUptoSaid : Prop := tagApartUptoRow.holds Try.pinned (OpenSpec.upto tagApartSpec)

/-- 'clinkerlaw03.TagKeys', WHERE WHAT IT READS IS OF BULK AT MOST 1048576: true; the input reads as it did. -/
def tagKeysUptoRow : OpenClaim := { program := "ytejhgjmapnmigaa", sum := "5a6038be18f8e3af038758ec4a042c8896058227d382e2845c469e3b3ca607d9", func := "clinker/clinkerlaw03.TagKeys", spec := "tagKeys", unfollowed := true, recurses := true, apart := false, narrowed := true }
def TagKeysUptoSaid : Prop := tagKeysUptoRow.holds Try.pinned (OpenSpec.upto tagKeysSpec)

/-- 'clinkerlaw03.TagLong', WHERE WHAT IT READS IS OF BULK AT MOST 1048576: true; the input reads as it did. -/
def tagLongUptoRow : OpenClaim := { program := "ytejhgjmapnmigaa", sum := "5a6038be18f8e3af038758ec4a042c8896058227d382e2845c469e3b3ca607d9", func := "clinker/clinkerlaw03.TagLong", spec := "tagLong", unfollowed := true, recurses := true, apart := false, narrowed := true }
def TagLongUptoSaid : Prop := tagLongUptoRow.holds Try.pinned (OpenSpec.upto tagLongSpec)

end Rows
end Go.Proofs.Ytejhgjmapnmigaa
