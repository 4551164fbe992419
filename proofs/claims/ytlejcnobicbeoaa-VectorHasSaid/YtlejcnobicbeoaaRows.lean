/-
  No cell of these rows narrows 'for every input' (looked for: loops, veiled, ifaces, maps, wideKeys, modest, calm, conditions, laid).
  DERIVED. THE GIVEN ROWS OF THIS SEAT. 6 by the template 'for every input the law returns true; each argument reads behind the call as it read before'; 0 by the template 'total and deterministic' (their statements: YtlejcnobicbeoaaTotals.lean).
  GIVEN WITH THE SEED: the statements are not yours to turn. If you find one false, say at which input.
  Laid BY PROGRAM, IN A SANDBOX (cutbox-rows.mjs): the forced cells as the released guide's own fill.sh prints them over the translation b3c5842afd3acc90… (all of the seat's roots in one cut). By AI agents, Wed Nov 11 2026. No macro, syntax, notation, axiom, sorry.
-/
import Derived.Test.YtlejcnobicbeoaaChecked
import GoSem.Claim
import GoSem.ClaimJoined
import GoSem.ClaimMapViews
import Derived.JoinedTies
import Derived.KernelRfl
namespace Go.Proofs.Ytlejcnobicbeoaa
/- THE CELL 'sum', in the pinned program and in every row, IS THE sha256 OF THE DUMP (.gsa) THAT YtlejcnobicbeoaaProg.lean LOADS. Nothing in Lean hashes anything: it is a label: what it is worth is what the hold of that sum in a sandbox is worth. -/
noncomputable def Try.pinned : Pinned := { name := "ytlejcnobicbeoaa", sum := "b3c5842afd3acc906d2c6840d9da4034e993aff8e66e0ebfa7ee70aa68f9f5ff", checked := Try.checked }
namespace Rows
def none {H : Type} : Left H := { results := [], args := [] }

/-- 'escrowlaw7.VectorHas': WHATEVER THE INPUT: true; the input reads as it did. -/
def vectorHasSpec : ChangeSpec := { name := "vectorHas", fn := fun _ => fun
  | [d] => { results := [.lit (.bool true)], args := [d] }
  | _ => none }
def vectorHasRow : OpenClaim := { program := "ytlejcnobicbeoaa", sum := "b3c5842afd3acc906d2c6840d9da4034e993aff8e66e0ebfa7ee70aa68f9f5ff", func := "escrow/escrowlaw7.VectorHas", spec := "vectorHas", unfollowed := true, recurses := true, apart := false }
def VectorHasSaid : Prop := vectorHasRow.holds Try.pinned (OpenSpec.ofChange vectorHasSpec)

/-- ITS FALSE NEIGHBOUR: 'it returns false'. Refute it at one input. -/
def vectorHasWrong : ChangeSpec := { name := "vectorHas", fn := fun _ => fun
  | [d] => { results := [.lit (.bool false)], args := [d] }
  | _ => none }
def VectorHasWrongFalsely : Prop := vectorHasRow.holds Try.pinned (OpenSpec.ofChange vectorHasWrong)

/-- 'escrowlaw7.VectorJoined': WHATEVER THE INPUT: true; the input reads as it did. -/
def vectorJoinedSpec : ChangeSpec := { name := "vectorJoined", fn := fun _ => fun
  | [d1, d2] => { results := [.lit (.bool true)], args := [d1, d2] }
  | _ => none }
def vectorJoinedRow : OpenClaim := { program := "ytlejcnobicbeoaa", sum := "b3c5842afd3acc906d2c6840d9da4034e993aff8e66e0ebfa7ee70aa68f9f5ff", func := "escrow/escrowlaw7.VectorJoined", spec := "vectorJoined", unfollowed := true, recurses := true, apart := false }
def VectorJoinedSaid : Prop := vectorJoinedRow.holds Try.pinned (OpenSpec.ofChange vectorJoinedSpec)

/-- ITS FALSE NEIGHBOUR: 'it returns false'. Refute it at one input. -/
def vectorJoinedWrong : ChangeSpec := { name := "vectorJoined", fn := fun _ => fun
  | [d1, d2] => { results := [.lit (.bool false)], args := [d1, d2] }
  | _ => none }
def VectorJoinedWrongFalsely : Prop := vectorJoinedRow.holds Try.pinned (OpenSpec.ofChange vectorJoinedWrong)

/-- 'escrowlaw7.VectorSteps': WHATEVER THE INPUT: true; the input reads as it did. -/
def vectorStepsSpec : ChangeSpec := { name := "vectorSteps", fn := fun _ => fun
  | [d1, d2] => { results := [.lit (.bool true)], args := [d1, d2] }
  | _ => none }
def vectorStepsRow : OpenClaim := { program := "ytlejcnobicbeoaa", sum := "b3c5842afd3acc906d2c6840d9da4034e993aff8e66e0ebfa7ee70aa68f9f5ff", func := "escrow/escrowlaw7.VectorSteps", spec := "vectorSteps", unfollowed := true, recurses := true, apart := false }
def VectorStepsSaid : Prop := vectorStepsRow.holds Try.pinned (OpenSpec.ofChange vectorStepsSpec)

/-- ITS FALSE NEIGHBOUR: 'it returns false'. Refute it at one input. -/
def vectorStepsWrong : ChangeSpec := { name := "vectorSteps", fn := fun _ => fun
  | [d1, d2] => { results := [.lit (.bool false)], args := [d1, d2] }
  | _ => none }
def VectorStepsWrongFalsely : Prop := vectorStepsRow.holds Try.pinned (OpenSpec.ofChange vectorStepsWrong)

/-- 'escrowlaw7.VectorLes': WHATEVER THE INPUT: true; the input reads as it did. -/
def vectorLesSpec : ChangeSpec := { name := "vectorLes", fn := fun _ => fun
  | [d1, d2] => { results := [.lit (.bool true)], args := [d1, d2] }
  | _ => none }
def vectorLesRow : OpenClaim := { program := "ytlejcnobicbeoaa", sum := "b3c5842afd3acc906d2c6840d9da4034e993aff8e66e0ebfa7ee70aa68f9f5ff", func := "escrow/escrowlaw7.VectorLes", spec := "vectorLes", unfollowed := true, recurses := true, apart := false }
def VectorLesSaid : Prop := vectorLesRow.holds Try.pinned (OpenSpec.ofChange vectorLesSpec)

/-- ITS FALSE NEIGHBOUR: 'it returns false'. Refute it at one input. -/
def vectorLesWrong : ChangeSpec := { name := "vectorLes", fn := fun _ => fun
  | [d1, d2] => { results := [.lit (.bool false)], args := [d1, d2] }
  | _ => none }
def VectorLesWrongFalsely : Prop := vectorLesRow.holds Try.pinned (OpenSpec.ofChange vectorLesWrong)

/-- 'escrowlaw7.VectorAsks': WHATEVER THE INPUT: true; the input reads as it did. -/
def vectorAsksSpec : ChangeSpec := { name := "vectorAsks", fn := fun _ => fun
  | [d1, d2, d3, d4] => { results := [.lit (.bool true)], args := [d1, d2, d3, d4] }
  | _ => none }
def vectorAsksRow : OpenClaim := { program := "ytlejcnobicbeoaa", sum := "b3c5842afd3acc906d2c6840d9da4034e993aff8e66e0ebfa7ee70aa68f9f5ff", func := "escrow/escrowlaw7.VectorAsks", spec := "vectorAsks", unfollowed := true, recurses := true, apart := false }
def VectorAsksSaid : Prop := vectorAsksRow.holds Try.pinned (OpenSpec.ofChange vectorAsksSpec)

/-- ITS FALSE NEIGHBOUR: 'it returns false'. Refute it at one input. -/
def vectorAsksWrong : ChangeSpec := { name := "vectorAsks", fn := fun _ => fun
  | [d1, d2, d3, d4] => { results := [.lit (.bool false)], args := [d1, d2, d3, d4] }
  | _ => none }
def VectorAsksWrongFalsely : Prop := vectorAsksRow.holds Try.pinned (OpenSpec.ofChange vectorAsksWrong)

/-- 'escrowlaw7.VectorJoins': WHATEVER THE INPUT: true; the input reads as it did. -/
def vectorJoinsSpec : ChangeSpec := { name := "vectorJoins", fn := fun _ => fun
  | [d1, d2, d3] => { results := [.lit (.bool true)], args := [d1, d2, d3] }
  | _ => none }
def vectorJoinsRow : OpenClaim := { program := "ytlejcnobicbeoaa", sum := "b3c5842afd3acc906d2c6840d9da4034e993aff8e66e0ebfa7ee70aa68f9f5ff", func := "escrow/escrowlaw7.VectorJoins", spec := "vectorJoins", unfollowed := true, recurses := true, apart := false }
def VectorJoinsSaid : Prop := vectorJoinsRow.holds Try.pinned (OpenSpec.ofChange vectorJoinsSpec)

/-- ITS FALSE NEIGHBOUR: 'it returns false'. Refute it at one input. -/
def vectorJoinsWrong : ChangeSpec := { name := "vectorJoins", fn := fun _ => fun
  | [d1, d2, d3] => { results := [.lit (.bool false)], args := [d1, d2, d3] }
  | _ => none }
def VectorJoinsWrongFalsely : Prop := vectorJoinsRow.holds Try.pinned (OpenSpec.ofChange vectorJoinsWrong)

/- THE SECOND FORM. 'bulk': how many values and letters a reading holds, each counted each time it is reached (what is shared counts as often as it is met; a slice's spare places count too). A statement '..UptoSaid' is the law's where the arguments, and the package variables that the reading takes, are together of bulk at most 1048576: NARROWER than '..Said'. Prove '..Said' where nothing that the law and all that it calls make is longer than what came in: it says more and counts as full. Else prove '..UptoSaid'. A law counts once. -/
mutual
def uptoBulk {H : Type} : DataW H → Nat
  | .lit (.string bytes) => bytes.length + 1
  | .lit _ => 1
  | .nil => 1
  | .ptr d => uptoBulk d + 1
  | .slice elems spare => uptoBulkAll elems + uptoBulkAll spare + 1
  | .agg parts => uptoBulkAll parts + 1
  | .iface _ d => uptoBulk d + 1
  | .map entries => uptoBulkEntries entries + 1
  | .held _ => 1
def uptoBulkAll {H : Type} : List (DataW H) → Nat
  | [] => 0
  | d :: r => uptoBulk d + uptoBulkAll r
def uptoBulkEntries {H : Type} : List (Lit × DataW H) → Nat
  | [] => 0
  | x :: r => uptoBulkEntry x + uptoBulkEntries r
def uptoBulkEntry {H : Type} : Lit × DataW H → Nat
  | (.string bytes, d) => bytes.length + uptoBulk d + 1
  | (_, d) => uptoBulk d + 1
 end
def uptoSmall : (H : Type) → List (DataW H) → Bool := fun _ ds => decide (uptoBulkAll ds ≤ 1048576)
def OpenSpec.upto (s : _root_.Go.ChangeSpec) : _root_.Go.OpenSpec := { _root_.Go.OpenSpec.ofChange s with cond := some uptoSmall }

/-- 'escrowlaw7.VectorHas', WHERE WHAT IT READS IS OF BULK AT MOST 1048576: true; the input reads as it did. -/
def vectorHasUptoRow : OpenClaim := { program := "ytlejcnobicbeoaa", sum := "b3c5842afd3acc906d2c6840d9da4034e993aff8e66e0ebfa7ee70aa68f9f5ff", func := "escrow/escrowlaw7.VectorHas", spec := "vectorHas", unfollowed := true, recurses := true, apart := false, narrowed := true }
def VectorHasUptoSaid : Prop := vectorHasUptoRow.holds Try.pinned (OpenSpec.upto vectorHasSpec)

/-- 'escrowlaw7.VectorJoined', WHERE WHAT IT READS IS OF BULK AT MOST 1048576: true; the input reads as it did. -/
def vectorJoinedUptoRow : OpenClaim := { program := "ytlejcnobicbeoaa", sum := "b3c5842afd3acc906d2c6840d9da4034e993aff8e66e0ebfa7ee70aa68f9f5ff", func := "escrow/escrowlaw7.VectorJoined", spec := "vectorJoined", unfollowed := true, recurses := true, apart := false, narrowed := true }
def VectorJoinedUptoSaid : Prop := vectorJoinedUptoRow.holds Try.pinned (OpenSpec.upto vectorJoinedSpec)

/-- 'escrowlaw7.VectorSteps', WHERE WHAT IT READS IS OF BULK AT MOST 1048576: true; the input reads as it did. -/
def vectorStepsUptoRow : OpenClaim := { program := "ytlejcnobicbeoaa", sum := "b3c5842afd3acc906d2c6840d9da4034e993aff8e66e0ebfa7ee70aa68f9f5ff", func := "escrow/escrowlaw7.VectorSteps", spec := "vectorSteps", unfollowed := true, recurses := true, apart := false, narrowed := true }
def VectorStepsUptoSaid : Prop := vectorStepsUptoRow.holds Try.pinned (OpenSpec.upto vectorStepsSpec)

/-- 'escrowlaw7.VectorLes', WHERE WHAT IT READS IS OF BULK AT MOST 1048576: true; the input reads as it did. -/
def vectorLesUptoRow : OpenClaim := { program := "ytlejcnobicbeoaa", sum := "b3c5842afd3acc906d2c6840d9da4034e993aff8e66e0ebfa7ee70aa68f9f5ff", func := "escrow/escrowlaw7.VectorLes", spec := "vectorLes", unfollowed := true, recurses := true, apart := false, narrowed := true }
def VectorLesUptoSaid : Prop := vectorLesUptoRow.holds Try.pinned (OpenSpec.upto vectorLesSpec)

/-- 'escrowlaw7.VectorAsks', WHERE WHAT IT READS IS OF BULK AT MOST 1048576: true; the input reads as it did. -/
def vectorAsksUptoRow : OpenClaim := { program := "ytlejcnobicbeoaa", sum := "b3c5842afd3acc906d2c6840d9da4034e993aff8e66e0ebfa7ee70aa68f9f5ff", func := "escrow/escrowlaw7.VectorAsks", spec := "vectorAsks", unfollowed := true, recurses := true, apart := false, narrowed := true }
def VectorAsksUptoSaid : Prop := vectorAsksUptoRow.holds Try.pinned (OpenSpec.upto vectorAsksSpec)

/-- 'escrowlaw7.VectorJoins', WHERE WHAT IT READS IS OF BULK AT MOST 1048576: true; the input reads as it did. -/
def vectorJoinsUptoRow : OpenClaim := { program := "ytlejcnobicbeoaa", sum := "b3c5842afd3acc906d2c6840d9da4034e993aff8e66e0ebfa7ee70aa68f9f5ff", func := "escrow/escrowlaw7.VectorJoins", spec := "vectorJoins", unfollowed := true, recurses := true, apart := false, narrowed := true }
def VectorJoinsUptoSaid : Prop := vectorJoinsUptoRow.holds Try.pinned (OpenSpec.upto vectorJoinsSpec)

end Rows
end Go.Proofs.Ytlejcnobicbeoaa
