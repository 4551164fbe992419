/-
  No cell of these rows narrows 'for every input' (looked for: loops, veiled, ifaces, maps, wideKeys, modest, calm, conditions, laid).
  DERIVED. THE GIVEN ROWS OF THIS SEAT. 4 by the template 'for every input the law returns true; each argument reads behind the call as it read before'; 0 by the template 'total and deterministic' (their statements: YtlfopoimbbpfdaaGreatTotals.lean).
  GIVEN WITH THE SEED: the statements are not yours to turn. If you find one false, say at which input.
  Laid BY PROGRAM, IN A SANDBOX (cutbox-rows.mjs): the forced cells as the released guide's own fill.sh prints them over the translation d09767bf3e97e6ee… (all of the seat's roots in one cut). By AI agents, Wed Nov 11 2026. No macro, syntax, notation, axiom, sorry.
-/
import Derived.Test.YtlfopoimbbpfdaaGreatChecked
import GoSem.Claim
import GoSem.ClaimJoined
import GoSem.ClaimMapViews
import Derived.JoinedTies
import Derived.KernelRfl
namespace Go.Proofs.YtlfopoimbbpfdaaGreat
/- THE CELL 'sum', in the pinned program and in every row, IS THE sha256 OF THE DUMP (.gsa) THAT YtlfopoimbbpfdaaGreatProg.lean LOADS. Nothing in Lean hashes anything: it is a label: what it is worth is what the hold of that sum in a sandbox is worth. -/
noncomputable def Tryz.pinned : Pinned := { name := "ytlfopoimbbpfdaagreat", sum := "d09767bf3e97e6eef1c86ee0172ec09f55843c95020c236add044f871164e7ce", checked := Tryz.checked }
namespace Rows
def none {H : Type} : Left H := { results := [], args := [] }

/-- 'escrowlaw12.LedgerTotals': WHATEVER THE INPUT: true; the input reads as it did. -/
def ledgerTotalsSpec : ChangeSpec := { name := "ledgerTotals", fn := fun _ => fun
  | [d] => { results := [.lit (.bool true)], args := [d] }
  | _ => none }
def ledgerTotalsRow : OpenClaim := { program := "ytlfopoimbbpfdaagreat", sum := "d09767bf3e97e6eef1c86ee0172ec09f55843c95020c236add044f871164e7ce", func := "escrow/escrowlaw12.LedgerTotals", spec := "ledgerTotals", inPlace := ["slices.overlaps[escrow/api.Lease]", "slices.overlaps[int]"], unfollowed := true, recurses := true, apart := false }
def LedgerTotalsSaid : Prop := ledgerTotalsRow.holds Tryz.pinned (OpenSpec.ofChange ledgerTotalsSpec)

/-- ITS FALSE NEIGHBOUR: 'it returns false'. Refute it at one input. -/
def ledgerTotalsWrong : ChangeSpec := { name := "ledgerTotals", fn := fun _ => fun
  | [d] => { results := [.lit (.bool false)], args := [d] }
  | _ => none }
def LedgerTotalsWrongFalsely : Prop := ledgerTotalsRow.holds Tryz.pinned (OpenSpec.ofChange ledgerTotalsWrong)

/-- 'escrowlaw12.LedgerSound': WHATEVER THE INPUT: true; the input reads as it did. -/
def ledgerSoundSpec : ChangeSpec := { name := "ledgerSound", fn := fun _ => fun
  | [d1, d2, d3, d4] => { results := [.lit (.bool true)], args := [d1, d2, d3, d4] }
  | _ => none }
def ledgerSoundRow : OpenClaim := { program := "ytlfopoimbbpfdaagreat", sum := "d09767bf3e97e6eef1c86ee0172ec09f55843c95020c236add044f871164e7ce", func := "escrow/escrowlaw12.LedgerSound", spec := "ledgerSound", inPlace := ["slices.overlaps[escrow/api.Lease]", "slices.overlaps[int]"], unfollowed := true, recurses := true, apart := false }
def LedgerSoundSaid : Prop := ledgerSoundRow.holds Tryz.pinned (OpenSpec.ofChange ledgerSoundSpec)

/-- ITS FALSE NEIGHBOUR: 'it returns false'. Refute it at one input. -/
def ledgerSoundWrong : ChangeSpec := { name := "ledgerSound", fn := fun _ => fun
  | [d1, d2, d3, d4] => { results := [.lit (.bool false)], args := [d1, d2, d3, d4] }
  | _ => none }
def LedgerSoundWrongFalsely : Prop := ledgerSoundRow.holds Tryz.pinned (OpenSpec.ofChange ledgerSoundWrong)

/-- 'escrowlaw12.LedgerSames': WHATEVER THE INPUT: true; the input reads as it did. -/
def ledgerSamesSpec : ChangeSpec := { name := "ledgerSames", fn := fun _ => fun
  | [d1, d2] => { results := [.lit (.bool true)], args := [d1, d2] }
  | _ => none }
def ledgerSamesRow : OpenClaim := { program := "ytlfopoimbbpfdaagreat", sum := "d09767bf3e97e6eef1c86ee0172ec09f55843c95020c236add044f871164e7ce", func := "escrow/escrowlaw12.LedgerSames", spec := "ledgerSames", inPlace := ["slices.overlaps[escrow/api.Lease]", "slices.overlaps[int]"], unfollowed := true, recurses := true, apart := false }
def LedgerSamesSaid : Prop := ledgerSamesRow.holds Tryz.pinned (OpenSpec.ofChange ledgerSamesSpec)

/-- ITS FALSE NEIGHBOUR: 'it returns false'. Refute it at one input. -/
def ledgerSamesWrong : ChangeSpec := { name := "ledgerSames", fn := fun _ => fun
  | [d1, d2] => { results := [.lit (.bool false)], args := [d1, d2] }
  | _ => none }
def LedgerSamesWrongFalsely : Prop := ledgerSamesRow.holds Tryz.pinned (OpenSpec.ofChange ledgerSamesWrong)

/-- 'escrowlaw12.LedgerPlays': WHATEVER THE INPUT: true; the input reads as it did. -/
def ledgerPlaysSpec : ChangeSpec := { name := "ledgerPlays", fn := fun _ => fun
  | [d1, d2] => { results := [.lit (.bool true)], args := [d1, d2] }
  | _ => none }
def ledgerPlaysRow : OpenClaim := { program := "ytlfopoimbbpfdaagreat", sum := "d09767bf3e97e6eef1c86ee0172ec09f55843c95020c236add044f871164e7ce", func := "escrow/escrowlaw12.LedgerPlays", spec := "ledgerPlays", inPlace := ["slices.overlaps[escrow/api.Lease]", "slices.overlaps[int]"], unfollowed := true, recurses := true, apart := false }
def LedgerPlaysSaid : Prop := ledgerPlaysRow.holds Tryz.pinned (OpenSpec.ofChange ledgerPlaysSpec)

/-- ITS FALSE NEIGHBOUR: 'it returns false'. Refute it at one input. -/
def ledgerPlaysWrong : ChangeSpec := { name := "ledgerPlays", fn := fun _ => fun
  | [d1, d2] => { results := [.lit (.bool false)], args := [d1, d2] }
  | _ => none }
def LedgerPlaysWrongFalsely : Prop := ledgerPlaysRow.holds Tryz.pinned (OpenSpec.ofChange ledgerPlaysWrong)

/- THE SECOND FORM. 'bulk': how many values and letters a reading holds, each counted each time it is reached (what is shared counts as often as it is met; a slice's spare places count too). A statement '..UptoSaid' is the law's where the arguments, and the package variables that the reading takes, are together of bulk at most 1048576: NARROWER than '..Said'. Prove '..Said' where nothing that the law and all that it calls make is longer than what came in: it says more and counts as full. Else prove '..UptoSaid'. A law counts once. -/
mutual
def uptoBulk {H : Type} : DataW H → Nat
  | .lit (.string bytes) => bytes.length + 1
  | .lit _ => 1
  | .nil => 1
  | .ptr d => uptoBulk d + 1
  | .slice elems spare => uptoBulkAll elems + uptoBulkAll spare + 1
  | .agg parts => uptoBulkAll parts + 1
  | .iface _ d => uptoBulk d + 1
  | .map entries => uptoBulkEntries entries + 1
  | .held _ => 1
def uptoBulkAll {H : Type} : List (DataW H) → Nat
  | [] => 0
  | d :: r => uptoBulk d + uptoBulkAll r
def uptoBulkEntries {H : Type} : List (Lit × DataW H) → Nat
  | [] => 0
  | x :: r => uptoBulkEntry x + uptoBulkEntries r
def uptoBulkEntry {H : Type} : Lit × DataW H → Nat
  | (.string bytes, d) => bytes.length + uptoBulk d + 1
  | (_, d) => uptoBulk d + 1
 end
def uptoSmall : (H : Type) → List (DataW H) → Bool := fun _ ds => decide (uptoBulkAll ds ≤ 1048576)
def OpenSpec.upto (s : _root_.Go.ChangeSpec) : _root_.Go.OpenSpec := { _root_.Go.OpenSpec.ofChange s with cond := some uptoSmall }

/-- 'escrowlaw12.LedgerTotals', WHERE WHAT IT READS IS OF BULK AT MOST 1048576: true; the input reads as it did. -/
def ledgerTotalsUptoRow : OpenClaim := { program := "ytlfopoimbbpfdaagreat", sum := "d09767bf3e97e6eef1c86ee0172ec09f55843c95020c236add044f871164e7ce", func := "escrow/escrowlaw12.LedgerTotals", spec := "ledgerTotals", inPlace := ["slices.overlaps[escrow/api.Lease]", "slices.overlaps[int]"], unfollowed := true, recurses := true, apart := false, narrowed := true }
def LedgerTotalsUptoSaid : Prop := ledgerTotalsUptoRow.holds Tryz.pinned (OpenSpec.upto ledgerTotalsSpec)

/-- 'escrowlaw12.LedgerSound', WHERE WHAT IT READS IS OF BULK AT MOST 1048576: true; the input reads as it did. -/
def ledgerSoundUptoRow : OpenClaim := { program := "ytlfopoimbbpfdaagreat", sum := "d09767bf3e97e6eef1c86ee0172ec09f55843c95020c236add044f871164e7ce", func := "escrow/escrowlaw12.LedgerSound", spec := "ledgerSound", inPlace := ["slices.overlaps[escrow/api.Lease]", "slices.overlaps[int]"], unfollowed := true, recurses := true, apart := false, narrowed := true }
def LedgerSoundUptoSaid : Prop := ledgerSoundUptoRow.holds Tryz.pinned (OpenSpec.upto ledgerSoundSpec)

/-- 'escrowlaw12.LedgerSames', WHERE WHAT IT READS IS OF BULK AT MOST 1048576: true; the input reads as it did. -/
def ledgerSamesUptoRow : OpenClaim := { program := "ytlfopoimbbpfdaagreat", sum := "d09767bf3e97e6eef1c86ee0172ec09f55843c95020c236add044f871164e7ce", func := "escrow/escrowlaw12.LedgerSames", spec := "ledgerSames", inPlace := ["slices.overlaps[escrow/api.Lease]", "slices.overlaps[int]"], unfollowed := true, recurses := true, apart := false, narrowed := true }
def LedgerSamesUptoSaid : Prop := ledgerSamesUptoRow.holds Tryz.pinned (OpenSpec.upto ledgerSamesSpec)

/-- 'escrowlaw12.LedgerPlays', WHERE WHAT IT READS IS OF BULK AT MOST 1048576: true; the input reads as it did. -/
def ledgerPlaysUptoRow : OpenClaim := { program := "ytlfopoimbbpfdaagreat", sum := "d09767bf3e97e6eef1c86ee0172ec09f55843c95020c236add044f871164e7ce", func := "escrow/escrowlaw12.LedgerPlays", spec := "ledgerPlays", inPlace := ["slices.overlaps[escrow/api.Lease]", "slices.overlaps[int]"], unfollowed := true, recurses := true, apart := false, narrowed := true }
def LedgerPlaysUptoSaid : Prop := ledgerPlaysUptoRow.holds Tryz.pinned (OpenSpec.upto ledgerPlaysSpec)

end Rows
end Go.Proofs.YtlfopoimbbpfdaaGreat
