/-
  No cell of these rows narrows 'for every input' (looked for: loops, veiled, ifaces, maps, wideKeys, modest, calm, conditions, laid).
  DERIVED. THE GIVEN ROWS OF THIS SEAT. 6 by the template 'for every input the law returns true; each argument reads behind the call as it read before'; 0 by the template 'total and deterministic' (their statements: YtcahhknehmhlaaaTotals.lean).
  GIVEN WITH THE SEED: the statements are not yours to turn. If you find one false, say at which input.
  Laid BY PROGRAM, IN A SANDBOX (cutbox-rows.mjs): the forced cells as the released guide's own fill.sh prints them over the translation 123f873c8bf7004f… (all of the seat's roots in one cut). By AI agents, Wed Nov 11 2026. No macro, syntax, notation, axiom, sorry.
-/
import Derived.Test.YtcahhknehmhlaaaChecked
import GoSem.Claim
import GoSem.ClaimJoined
import GoSem.ClaimMapViews
import Derived.JoinedTies
import Derived.KernelRfl
namespace Go.Proofs.Ytcahhknehmhlaaa
/- THE CELL 'sum', in the pinned program and in every row, IS THE sha256 OF THE DUMP (.gsa) THAT YtcahhknehmhlaaaProg.lean LOADS. Nothing in Lean hashes anything: it is a label: what it is worth is what the hold of that sum in a sandbox is worth. -/
noncomputable def Try.pinned : Pinned := { name := "ytcahhknehmhlaaa", sum := "123f873c8bf7004f45e823a01df1c4473f7fffce470904db8460db227adfbd50", checked := Try.checked }
namespace Rows
def none {H : Type} : Left H := { results := [], args := [] }

/-- 'clinkerlaw13.ModelAny': WHATEVER THE INPUT: true; the input reads as it did. -/
def modelAnySpec : ChangeSpec := { name := "modelAny", fn := fun _ => fun
  | [d1, d2, d3, d4] => { results := [.lit (.bool true)], args := [d1, d2, d3, d4] }
  | _ => none }
def modelAnyRow : OpenClaim := { program := "ytcahhknehmhlaaa", sum := "123f873c8bf7004f45e823a01df1c4473f7fffce470904db8460db227adfbd50", func := "clinker/clinkerlaw13.ModelAny", spec := "modelAny", unfollowed := true, recurses := true, apart := false }
def ModelAnySaid : Prop := modelAnyRow.holds Try.pinned (OpenSpec.ofChange modelAnySpec)

/-- ITS FALSE NEIGHBOUR: 'it returns false'. Refute it at one input. -/
def modelAnyWrong : ChangeSpec := { name := "modelAny", fn := fun _ => fun
  | [d1, d2, d3, d4] => { results := [.lit (.bool false)], args := [d1, d2, d3, d4] }
  | _ => none }
def ModelAnyWrongFalsely : Prop := modelAnyRow.holds Try.pinned (OpenSpec.ofChange modelAnyWrong)

/-- 'clinkerlaw13.ModelMade': WHATEVER THE INPUT: true; the input reads as it did. -/
def modelMadeSpec : ChangeSpec := { name := "modelMade", fn := fun _ => fun
  | [d1, d2, d3] => { results := [.lit (.bool true)], args := [d1, d2, d3] }
  | _ => none }
def modelMadeRow : OpenClaim := { program := "ytcahhknehmhlaaa", sum := "123f873c8bf7004f45e823a01df1c4473f7fffce470904db8460db227adfbd50", func := "clinker/clinkerlaw13.ModelMade", spec := "modelMade", unfollowed := true, recurses := true, apart := false }
def ModelMadeSaid : Prop := modelMadeRow.holds Try.pinned (OpenSpec.ofChange modelMadeSpec)

/-- ITS FALSE NEIGHBOUR: 'it returns false'. Refute it at one input. -/
def modelMadeWrong : ChangeSpec := { name := "modelMade", fn := fun _ => fun
  | [d1, d2, d3] => { results := [.lit (.bool false)], args := [d1, d2, d3] }
  | _ => none }
def ModelMadeWrongFalsely : Prop := modelMadeRow.holds Try.pinned (OpenSpec.ofChange modelMadeWrong)

/-- 'clinkerlaw13.ModelReads': WHATEVER THE INPUT: true; the input reads as it did. -/
def modelReadsSpec : ChangeSpec := { name := "modelReads", fn := fun _ => fun
  | [d1, d2] => { results := [.lit (.bool true)], args := [d1, d2] }
  | _ => none }
def modelReadsRow : OpenClaim := { program := "ytcahhknehmhlaaa", sum := "123f873c8bf7004f45e823a01df1c4473f7fffce470904db8460db227adfbd50", func := "clinker/clinkerlaw13.ModelReads", spec := "modelReads", unfollowed := true, recurses := true, apart := false }
def ModelReadsSaid : Prop := modelReadsRow.holds Try.pinned (OpenSpec.ofChange modelReadsSpec)

/-- ITS FALSE NEIGHBOUR: 'it returns false'. Refute it at one input. -/
def modelReadsWrong : ChangeSpec := { name := "modelReads", fn := fun _ => fun
  | [d1, d2] => { results := [.lit (.bool false)], args := [d1, d2] }
  | _ => none }
def ModelReadsWrongFalsely : Prop := modelReadsRow.holds Try.pinned (OpenSpec.ofChange modelReadsWrong)

/-- 'clinkerlaw13.ModelOrder': WHATEVER THE INPUT: true; the input reads as it did. -/
def modelOrderSpec : ChangeSpec := { name := "modelOrder", fn := fun _ => fun
  | [d1, d2] => { results := [.lit (.bool true)], args := [d1, d2] }
  | _ => none }
def modelOrderRow : OpenClaim := { program := "ytcahhknehmhlaaa", sum := "123f873c8bf7004f45e823a01df1c4473f7fffce470904db8460db227adfbd50", func := "clinker/clinkerlaw13.ModelOrder", spec := "modelOrder", unfollowed := true, recurses := true, apart := false }
def ModelOrderSaid : Prop := modelOrderRow.holds Try.pinned (OpenSpec.ofChange modelOrderSpec)

/-- ITS FALSE NEIGHBOUR: 'it returns false'. Refute it at one input. -/
def modelOrderWrong : ChangeSpec := { name := "modelOrder", fn := fun _ => fun
  | [d1, d2] => { results := [.lit (.bool false)], args := [d1, d2] }
  | _ => none }
def ModelOrderWrongFalsely : Prop := modelOrderRow.holds Try.pinned (OpenSpec.ofChange modelOrderWrong)

/-- 'clinkerlaw13.ModelParts': WHATEVER THE INPUT: true; the input reads as it did. -/
def modelPartsSpec : ChangeSpec := { name := "modelParts", fn := fun _ => fun
  | [d1, d2] => { results := [.lit (.bool true)], args := [d1, d2] }
  | _ => none }
def modelPartsRow : OpenClaim := { program := "ytcahhknehmhlaaa", sum := "123f873c8bf7004f45e823a01df1c4473f7fffce470904db8460db227adfbd50", func := "clinker/clinkerlaw13.ModelParts", spec := "modelParts", unfollowed := true, recurses := true, apart := false }
def ModelPartsSaid : Prop := modelPartsRow.holds Try.pinned (OpenSpec.ofChange modelPartsSpec)

/-- ITS FALSE NEIGHBOUR: 'it returns false'. Refute it at one input. -/
def modelPartsWrong : ChangeSpec := { name := "modelParts", fn := fun _ => fun
  | [d1, d2] => { results := [.lit (.bool false)], args := [d1, d2] }
  | _ => none }
def ModelPartsWrongFalsely : Prop := modelPartsRow.holds Try.pinned (OpenSpec.ofChange modelPartsWrong)

/-- 'clinkerlaw13.ModelRead': WHATEVER THE INPUT: true; the input reads as it did. -/
def modelReadSpec : ChangeSpec := { name := "modelRead", fn := fun _ => fun
  | [d1, d2, d3] => { results := [.lit (.bool true)], args := [d1, d2, d3] }
  | _ => none }
def modelReadRow : OpenClaim := { program := "ytcahhknehmhlaaa", sum := "123f873c8bf7004f45e823a01df1c4473f7fffce470904db8460db227adfbd50", func := "clinker/clinkerlaw13.ModelRead", spec := "modelRead", unfollowed := true, recurses := true, apart := false }
def ModelReadSaid : Prop := modelReadRow.holds Try.pinned (OpenSpec.ofChange modelReadSpec)

/-- ITS FALSE NEIGHBOUR: 'it returns false'. Refute it at one input. -/
def modelReadWrong : ChangeSpec := { name := "modelRead", fn := fun _ => fun
  | [d1, d2, d3] => { results := [.lit (.bool false)], args := [d1, d2, d3] }
  | _ => none }
def ModelReadWrongFalsely : Prop := modelReadRow.holds Try.pinned (OpenSpec.ofChange modelReadWrong)

/- THE SECOND FORM. 'bulk': how many values and letters a reading holds, each counted each time it is reached (what is shared counts as often as it is met; a slice's spare places count too). A statement '..UptoSaid' is the law's where the arguments, and the package variables that the reading takes, are together of bulk at most 1048576: NARROWER than '..Said'. Prove '..Said' where nothing that the law and all that it calls make is longer than what came in: it says more and counts as full. Else prove '..UptoSaid'. A law counts once. -/
mutual
def uptoBulk {H : Type} : DataW H → Nat
  | .lit (.string bytes) => bytes.length + 1
  | .lit _ => 1
  | .nil => 1
  | .ptr d => uptoBulk d + 1
  | .slice elems spare => uptoBulkAll elems + uptoBulkAll spare + 1
  | .agg parts => uptoBulkAll parts + 1
  | .iface _ d => uptoBulk d + 1
  | .map entries => uptoBulkEntries entries + 1
  | .held _ => 1
def uptoBulkAll {H : Type} : List (DataW H) → Nat
  | [] => 0
  | d :: r => uptoBulk d + uptoBulkAll r
def uptoBulkEntries {H : Type} : List (Lit × DataW H) → Nat
  | [] => 0
  | x :: r => uptoBulkEntry x + uptoBulkEntries r
def uptoBulkEntry {H : Type} : Lit × DataW H → Nat
  | (.string bytes, d) => bytes.length + uptoBulk d + 1
  | (_, d) => uptoBulk d + 1
 end
def uptoSmall : (H : Type) → List (DataW H) → Bool := fun _ ds => decide (uptoBulkAll ds ≤ 1048576)
def OpenSpec.upto (s : _root_.Go.ChangeSpec) : _root_.Go.OpenSpec := { _root_.Go.OpenSpec.ofChange s with cond := some uptoSmall }

/-- 'clinkerlaw13.ModelAny', WHERE WHAT IT READS IS OF BULK AT MOST 1048576: true; the input reads as it did. -/
def modelAnyUptoRow : OpenClaim := { program := "ytcahhknehmhlaaa", sum := "123f873c8bf7004f45e823a01df1c4473f7fffce470904db8460db227adfbd50", func := "clinker/clinkerlaw13.ModelAny", spec := "modelAny", unfollowed := true, recurses := true, apart := false, narrowed := true }
def ModelAnyUptoSaid : Prop := modelAnyUptoRow.holds Try.pinned (OpenSpec.upto modelAnySpec)

/-- 'clinkerlaw13.ModelMade', WHERE WHAT IT READS IS OF BULK AT MOST 1048576: true; the input reads as it did. -/
def modelMadeUptoRow : OpenClaim := { program := "ytcahhknehmhlaaa", sum := "123f873c8bf7004f45e823a01df1c4473f7fffce470904db8460db227adfbd50", func := "clinker/clinkerlaw13.ModelMade", spec := "modelMade", unfollowed := true, recurses := true, apart := false, narrowed := true }
def ModelMadeUptoSaid : Prop := modelMadeUptoRow.holds Try.pinned (OpenSpec.upto modelMadeSpec)

/-- 'clinkerlaw13.ModelReads', WHERE WHAT IT READS IS OF BULK AT MOST 1048576: true; the input reads as it did. -/
def modelReadsUptoRow : OpenClaim := { program := "ytcahhknehmhlaaa", sum := "123f873c8bf7004f45e823a01df1c4473f7fffce470904db8460db227adfbd50", func := "clinker/clinkerlaw13.ModelReads", spec := "modelReads", unfollowed := true, recurses := true, apart := false, narrowed := true }
def ModelReadsUptoSaid : Prop := modelReadsUptoRow.holds Try.pinned (OpenSpec.upto modelReadsSpec)

/-- 'clinkerlaw13.ModelOrder', WHERE WHAT IT READS IS OF BULK AT MOST 1048576: true; the input reads as it did. -/
def modelOrderUptoRow : OpenClaim := { program := "ytcahhknehmhlaaa", sum := "123f873c8bf7004f45e823a01df1c4473f7fffce470904db8460db227adfbd50", func := "clinker/clinkerlaw13.ModelOrder", spec := "modelOrder", unfollowed := true, recurses := true, apart := false, narrowed := true }
def ModelOrderUptoSaid : Prop := modelOrderUptoRow.holds Try.pinned (OpenSpec.upto modelOrderSpec)

/-- 'clinkerlaw13.ModelParts', WHERE WHAT IT READS IS OF BULK AT MOST 1048576: true; the input reads as it did. -/
def modelPartsUptoRow : OpenClaim := { program := "ytcahhknehmhlaaa", sum := "123f873c8bf7004f45e823a01df1c4473f7fffce470904db8460db227adfbd50", func := "clinker/clinkerlaw13.ModelParts", spec := "modelParts", unfollowed := true, recurses := true, apart := false, narrowed := true }
def ModelPartsUptoSaid : Prop := modelPartsUptoRow.holds Try.pinned (OpenSpec.upto modelPartsSpec)

/-- 'clinkerlaw13.ModelRead', WHERE WHAT IT READS IS OF BULK AT MOST 1048576: true; the input reads as it did. -/
def modelReadUptoRow : OpenClaim := { program := "ytcahhknehmhlaaa", sum := "123f873c8bf7004f45e823a01df1c4473f7fffce470904db8460db227adfbd50", func := "clinker/clinkerlaw13.ModelRead", spec := "modelRead", unfollowed := true, recurses := true, apart := false, narrowed := true }
def ModelReadUptoSaid : Prop := modelReadUptoRow.holds Try.pinned (OpenSpec.upto modelReadSpec)

end Rows
end Go.Proofs.Ytcahhknehmhlaaa
