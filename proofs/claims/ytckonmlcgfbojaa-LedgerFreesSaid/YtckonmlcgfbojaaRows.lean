/-
  No cell of these rows narrows 'for every input' (looked for: loops, veiled, ifaces, maps, wideKeys, modest, calm, conditions, laid).
  DERIVED. THE GIVEN ROWS OF THIS SEAT. 7 by the template 'for every input the law returns true; each argument reads behind the call as it read before'; 0 by the template 'total and deterministic' (their statements: YtckonmlcgfbojaaTotals.lean).
  GIVEN WITH THE SEED: the statements are not yours to turn. If you find one false, say at which input.
  Laid BY PROGRAM, IN A SANDBOX (cutbox-rows.mjs): the forced cells as the released guide's own fill.sh prints them over the translation 0696a5e132cb5710… (all of the seat's roots in one cut). By AI agents, Wed Nov 11 2026. No macro, syntax, notation, axiom, sorry.
-/
import Derived.Test.YtckonmlcgfbojaaChecked
import GoSem.Claim
import GoSem.ClaimJoined
import GoSem.ClaimMapViews
import Derived.JoinedTies
import Derived.KernelRfl
namespace Go.Proofs.Ytckonmlcgfbojaa
/- THE CELL 'sum', in the pinned program and in every row, IS THE sha256 OF THE DUMP (.gsa) THAT YtckonmlcgfbojaaProg.lean LOADS. Nothing in Lean hashes anything: it is a label: what it is worth is what the hold of that sum in a sandbox is worth. -/
noncomputable def Try.pinned : Pinned := { name := "ytckonmlcgfbojaa", sum := "0696a5e132cb571055e053789ec38b8adbd7dd5fb5ccf34b530aba9e0efcc518", checked := Try.checked }
namespace Rows
def none {H : Type} : Left H := { results := [], args := [] }

/-- 'escrowlaw12.LedgerNew': WHATEVER THE INPUT: true; the input reads as it did. -/
def ledgerNewSpec : ChangeSpec := { name := "ledgerNew", fn := fun _ => fun
  | [d1, d2, d3] => { results := [.lit (.bool true)], args := [d1, d2, d3] }
  | _ => none }
def ledgerNewRow : OpenClaim := { program := "ytckonmlcgfbojaa", sum := "0696a5e132cb571055e053789ec38b8adbd7dd5fb5ccf34b530aba9e0efcc518", func := "escrow/escrowlaw12.LedgerNew", spec := "ledgerNew", unfollowed := true, recurses := true, apart := false }
def LedgerNewSaid : Prop := ledgerNewRow.holds Try.pinned (OpenSpec.ofChange ledgerNewSpec)

/-- ITS FALSE NEIGHBOUR: 'it returns false'. Refute it at one input. -/
def ledgerNewWrong : ChangeSpec := { name := "ledgerNew", fn := fun _ => fun
  | [d1, d2, d3] => { results := [.lit (.bool false)], args := [d1, d2, d3] }
  | _ => none }
def LedgerNewWrongFalsely : Prop := ledgerNewRow.holds Try.pinned (OpenSpec.ofChange ledgerNewWrong)

/-- 'escrowlaw12.LedgerGrants': WHATEVER THE INPUT: true; the input reads as it did. -/
def ledgerGrantsSpec : ChangeSpec := { name := "ledgerGrants", fn := fun _ => fun
  | [d1, d2, d3] => { results := [.lit (.bool true)], args := [d1, d2, d3] }
  | _ => none }
def ledgerGrantsRow : OpenClaim := { program := "ytckonmlcgfbojaa", sum := "0696a5e132cb571055e053789ec38b8adbd7dd5fb5ccf34b530aba9e0efcc518", func := "escrow/escrowlaw12.LedgerGrants", spec := "ledgerGrants", inPlace := ["slices.overlaps[escrow/api.Lease]"], unfollowed := true, recurses := true, apart := false }
def LedgerGrantsSaid : Prop := ledgerGrantsRow.holds Try.pinned (OpenSpec.ofChange ledgerGrantsSpec)

/-- ITS FALSE NEIGHBOUR: 'it returns false'. Refute it at one input. -/
def ledgerGrantsWrong : ChangeSpec := { name := "ledgerGrants", fn := fun _ => fun
  | [d1, d2, d3] => { results := [.lit (.bool false)], args := [d1, d2, d3] }
  | _ => none }
def LedgerGrantsWrongFalsely : Prop := ledgerGrantsRow.holds Try.pinned (OpenSpec.ofChange ledgerGrantsWrong)

/-- 'escrowlaw12.LedgerWants': WHATEVER THE INPUT: true; the input reads as it did. -/
def ledgerWantsSpec : ChangeSpec := { name := "ledgerWants", fn := fun _ => fun
  | [d1, d2] => { results := [.lit (.bool true)], args := [d1, d2] }
  | _ => none }
def ledgerWantsRow : OpenClaim := { program := "ytckonmlcgfbojaa", sum := "0696a5e132cb571055e053789ec38b8adbd7dd5fb5ccf34b530aba9e0efcc518", func := "escrow/escrowlaw12.LedgerWants", spec := "ledgerWants", inPlace := ["slices.overlaps[escrow/api.Lease]"], unfollowed := true, recurses := true, apart := false }
def LedgerWantsSaid : Prop := ledgerWantsRow.holds Try.pinned (OpenSpec.ofChange ledgerWantsSpec)

/-- ITS FALSE NEIGHBOUR: 'it returns false'. Refute it at one input. -/
def ledgerWantsWrong : ChangeSpec := { name := "ledgerWants", fn := fun _ => fun
  | [d1, d2] => { results := [.lit (.bool false)], args := [d1, d2] }
  | _ => none }
def LedgerWantsWrongFalsely : Prop := ledgerWantsRow.holds Try.pinned (OpenSpec.ofChange ledgerWantsWrong)

/-- 'escrowlaw12.LedgerPuts': WHATEVER THE INPUT: true; the input reads as it did. -/
def ledgerPutsSpec : ChangeSpec := { name := "ledgerPuts", fn := fun _ => fun
  | [d1, d2, d3] => { results := [.lit (.bool true)], args := [d1, d2, d3] }
  | _ => none }
def ledgerPutsRow : OpenClaim := { program := "ytckonmlcgfbojaa", sum := "0696a5e132cb571055e053789ec38b8adbd7dd5fb5ccf34b530aba9e0efcc518", func := "escrow/escrowlaw12.LedgerPuts", spec := "ledgerPuts", inPlace := ["slices.overlaps[escrow/api.Lease]"], unfollowed := true, recurses := true, apart := false }
def LedgerPutsSaid : Prop := ledgerPutsRow.holds Try.pinned (OpenSpec.ofChange ledgerPutsSpec)

/-- ITS FALSE NEIGHBOUR: 'it returns false'. Refute it at one input. -/
def ledgerPutsWrong : ChangeSpec := { name := "ledgerPuts", fn := fun _ => fun
  | [d1, d2, d3] => { results := [.lit (.bool false)], args := [d1, d2, d3] }
  | _ => none }
def LedgerPutsWrongFalsely : Prop := ledgerPutsRow.holds Try.pinned (OpenSpec.ofChange ledgerPutsWrong)

/-- 'escrowlaw12.LedgerKinds': WHATEVER THE INPUT: true; the input reads as it did. -/
def ledgerKindsSpec : ChangeSpec := { name := "ledgerKinds", fn := fun _ => fun
  | [d1, d2] => { results := [.lit (.bool true)], args := [d1, d2] }
  | _ => none }
def ledgerKindsRow : OpenClaim := { program := "ytckonmlcgfbojaa", sum := "0696a5e132cb571055e053789ec38b8adbd7dd5fb5ccf34b530aba9e0efcc518", func := "escrow/escrowlaw12.LedgerKinds", spec := "ledgerKinds", inPlace := ["slices.overlaps[escrow/api.Lease]", "slices.overlaps[int]"], unfollowed := true, recurses := true, apart := false }
def LedgerKindsSaid : Prop := ledgerKindsRow.holds Try.pinned (OpenSpec.ofChange ledgerKindsSpec)

/-- ITS FALSE NEIGHBOUR: 'it returns false'. Refute it at one input. -/
def ledgerKindsWrong : ChangeSpec := { name := "ledgerKinds", fn := fun _ => fun
  | [d1, d2] => { results := [.lit (.bool false)], args := [d1, d2] }
  | _ => none }
def LedgerKindsWrongFalsely : Prop := ledgerKindsRow.holds Try.pinned (OpenSpec.ofChange ledgerKindsWrong)

/-- 'escrowlaw12.LedgerRights': WHATEVER THE INPUT: true; the input reads as it did. -/
def ledgerRightsSpec : ChangeSpec := { name := "ledgerRights", fn := fun _ => fun
  | [d1, d2] => { results := [.lit (.bool true)], args := [d1, d2] }
  | _ => none }
def ledgerRightsRow : OpenClaim := { program := "ytckonmlcgfbojaa", sum := "0696a5e132cb571055e053789ec38b8adbd7dd5fb5ccf34b530aba9e0efcc518", func := "escrow/escrowlaw12.LedgerRights", spec := "ledgerRights", inPlace := ["slices.overlaps[escrow/api.Lease]", "slices.overlaps[int]"], unfollowed := true, recurses := true, apart := false }
def LedgerRightsSaid : Prop := ledgerRightsRow.holds Try.pinned (OpenSpec.ofChange ledgerRightsSpec)

/-- ITS FALSE NEIGHBOUR: 'it returns false'. Refute it at one input. -/
def ledgerRightsWrong : ChangeSpec := { name := "ledgerRights", fn := fun _ => fun
  | [d1, d2] => { results := [.lit (.bool false)], args := [d1, d2] }
  | _ => none }
def LedgerRightsWrongFalsely : Prop := ledgerRightsRow.holds Try.pinned (OpenSpec.ofChange ledgerRightsWrong)

/-- 'escrowlaw12.LedgerFrees': WHATEVER THE INPUT: true; the input reads as it did. -/
def ledgerFreesSpec : ChangeSpec := { name := "ledgerFrees", fn := fun _ => fun
  | [d1, d2, d3, d4] => { results := [.lit (.bool true)], args := [d1, d2, d3, d4] }
  | _ => none }
def ledgerFreesRow : OpenClaim := { program := "ytckonmlcgfbojaa", sum := "0696a5e132cb571055e053789ec38b8adbd7dd5fb5ccf34b530aba9e0efcc518", func := "escrow/escrowlaw12.LedgerFrees", spec := "ledgerFrees", inPlace := ["slices.overlaps[escrow/api.Lease]", "slices.overlaps[int]"], unfollowed := true, recurses := true, apart := false }
def LedgerFreesSaid : Prop := ledgerFreesRow.holds Try.pinned (OpenSpec.ofChange ledgerFreesSpec)

/-- ITS FALSE NEIGHBOUR: 'it returns false'. Refute it at one input. -/
def ledgerFreesWrong : ChangeSpec := { name := "ledgerFrees", fn := fun _ => fun
  | [d1, d2, d3, d4] => { results := [.lit (.bool false)], args := [d1, d2, d3, d4] }
  | _ => none }
def LedgerFreesWrongFalsely : Prop := ledgerFreesRow.holds Try.pinned (OpenSpec.ofChange ledgerFreesWrong)

/- THE SECOND FORM. 'bulk': how many values and letters a reading holds, each counted each time it is reached (what is shared counts as often as it is met; a slice's spare places count too). A statement '..UptoSaid' is the law's where the arguments, and the package variables that the reading takes, are together of bulk at most 1048576: NARROWER than '..Said'. Prove '..Said' where nothing that the law and all that it calls make is longer than what came in: it says more and counts as full. Else prove '..UptoSaid'. A law counts once. -/
mutual
def uptoBulk {H : Type} : DataW H → Nat
  | .lit (.string bytes) => bytes.length + 1
  | .lit _ => 1
  | .nil => 1
  | .ptr d => uptoBulk d + 1
  | .slice elems spare => uptoBulkAll elems + uptoBulkAll spare + 1
  | .agg parts => uptoBulkAll parts + 1
  | .iface _ d => uptoBulk d + 1
  | .map entries => uptoBulkEntries entries + 1
  | .held _ => 1
def uptoBulkAll {H : Type} : List (DataW H) → Nat
  | [] => 0
  | d :: r => uptoBulk d + uptoBulkAll r
def uptoBulkEntries {H : Type} : List (Lit × DataW H) → Nat
  | [] => 0
  | x :: r => uptoBulkEntry x + uptoBulkEntries r
def uptoBulkEntry {H : Type} : Lit × DataW H → Nat
  | (.string bytes, d) => bytes.length + uptoBulk d + 1
  | (_, d) => uptoBulk d + 1
 end
def uptoSmall : (H : Type) → List (DataW H) → Bool := fun _ ds => decide (uptoBulkAll ds ≤ 1048576)
def OpenSpec.upto (s : _root_.Go.ChangeSpec) : _root_.Go.OpenSpec := { _root_.Go.OpenSpec.ofChange s with cond := some uptoSmall }

/-- 'escrowlaw12.LedgerNew', WHERE WHAT IT READS IS OF BULK AT MOST 1048576: true; the input reads as it did. -/
def ledgerNewUptoRow : OpenClaim := { program := "ytckonmlcgfbojaa", sum := "0696a5e132cb571055e053789ec38b8adbd7dd5fb5ccf34b530aba9e0efcc518", func := "escrow/escrowlaw12.LedgerNew", spec := "ledgerNew", unfollowed := true, recurses := true, apart := false, narrowed := true }
def LedgerNewUptoSaid : Prop := ledgerNewUptoRow.holds Try.pinned (OpenSpec.upto ledgerNewSpec)

/-- 'escrowlaw12.LedgerGrants', WHERE WHAT IT READS IS OF BULK AT MOST 1048576: true; the input reads as it did. -/
def ledgerGrantsUptoRow : OpenClaim := { program := "ytckonmlcgfbojaa", sum := "0696a5e132cb571055e053789ec38b8adbd7dd5fb5ccf34b530aba9e0efcc518", func := "escrow/escrowlaw12.LedgerGrants", spec := "ledgerGrants", inPlace := ["slices.overlaps[escrow/api.Lease]"], unfollowed := true, recurses := true, apart := false, narrowed := true }
def LedgerGrantsUptoSaid : Prop := ledgerGrantsUptoRow.holds Try.pinned (OpenSpec.upto ledgerGrantsSpec)

/-- 'escrowlaw12.LedgerWants', WHERE WHAT IT READS IS OF BULK AT MOST 1048576: true; the input reads as it did. -/
def ledgerWantsUptoRow : OpenClaim := { program := "ytckonmlcgfbojaa", sum := "0696a5e132cb571055e053789ec38b8adbd7dd5fb5ccf34b530aba9e0efcc518", func := "escrow/escrowlaw12.LedgerWants", spec := "ledgerWants", inPlace := ["slices.overlaps[escrow/api.Lease]"], unfollowed := true, recurses := true, apart := false, narrowed := true }
def LedgerWantsUptoSaid : Prop := ledgerWantsUptoRow.holds Try.pinned (OpenSpec.upto ledgerWantsSpec)

/-- 'escrowlaw12.LedgerPuts', WHERE WHAT IT READS IS OF BULK AT MOST 1048576: true; the input reads as it did. -/
def ledgerPutsUptoRow : OpenClaim := { program := "ytckonmlcgfbojaa", sum := "0696a5e132cb571055e053789ec38b8adbd7dd5fb5ccf34b530aba9e0efcc518", func := "escrow/escrowlaw12.LedgerPuts", spec := "ledgerPuts", inPlace := ["slices.overlaps[escrow/api.Lease]"], unfollowed := true, recurses := true, apart := false, narrowed := true }
def LedgerPutsUptoSaid : Prop := ledgerPutsUptoRow.holds Try.pinned (OpenSpec.upto ledgerPutsSpec)

/-- 'escrowlaw12.LedgerKinds', WHERE WHAT IT READS IS OF BULK AT MOST 1048576: true; the input reads as it did. -/
def ledgerKindsUptoRow : OpenClaim := { program := "ytckonmlcgfbojaa", sum := "0696a5e132cb571055e053789ec38b8adbd7dd5fb5ccf34b530aba9e0efcc518", func := "escrow/escrowlaw12.LedgerKinds", spec := "ledgerKinds", inPlace := ["slices.overlaps[escrow/api.Lease]", "slices.overlaps[int]"], unfollowed := true, recurses := true, apart := false, narrowed := true }
def LedgerKindsUptoSaid : Prop := ledgerKindsUptoRow.holds Try.pinned (OpenSpec.upto ledgerKindsSpec)

/-- 'escrowlaw12.LedgerRights', WHERE WHAT IT READS IS OF BULK AT MOST 1048576: true; the input reads as it did. -/
def ledgerRightsUptoRow : OpenClaim := { program := "ytckonmlcgfbojaa", sum := "0696a5e132cb571055e053789ec38b8adbd7dd5fb5ccf34b530aba9e0efcc518", func := "escrow/escrowlaw12.LedgerRights", spec := "ledgerRights", inPlace := ["slices.overlaps[escrow/api.Lease]", "slices.overlaps[int]"], unfollowed := true, recurses := true, apart := false, narrowed := true }
def LedgerRightsUptoSaid : Prop := ledgerRightsUptoRow.holds Try.pinned (OpenSpec.upto ledgerRightsSpec)

/-- 'escrowlaw12.LedgerFrees', WHERE WHAT IT READS IS OF BULK AT MOST 1048576: true; the input reads as it did. -/
def ledgerFreesUptoRow : OpenClaim := { program := "ytckonmlcgfbojaa", sum := "0696a5e132cb571055e053789ec38b8adbd7dd5fb5ccf34b530aba9e0efcc518", func := "escrow/escrowlaw12.LedgerFrees", spec := "ledgerFrees", inPlace := ["slices.overlaps[escrow/api.Lease]", "slices.overlaps[int]"], unfollowed := true, recurses := true, apart := false, narrowed := true }
def LedgerFreesUptoSaid : Prop := ledgerFreesUptoRow.holds Try.pinned (OpenSpec.upto ledgerFreesSpec)

end Rows
end Go.Proofs.Ytckonmlcgfbojaa
