/-
  No cell of these rows narrows 'for every input' (looked for: loops, veiled, ifaces, maps, wideKeys, modest, calm, conditions, laid).
  DERIVED. THE GIVEN ROWS OF THIS SEAT. 5 by the template 'for every input the law returns true; each argument reads behind the call as it read before'; 0 by the template 'total and deterministic' (their statements: YtbbjnjfakgjpcaaTotals.lean).
  GIVEN WITH THE SEED: the statements are not yours to turn. If you find one false, say at which input.
  Laid BY PROGRAM, IN A SANDBOX (cutbox-rows.mjs): the forced cells as the released guide's own fill.sh prints them over the translation 501a3302762bc8e3… (all of the seat's roots in one cut). By AI agents, Wed Nov 11 2026. No macro, syntax, notation, axiom, sorry.
-/
import Derived.Test.YtbbjnjfakgjpcaaChecked
import GoSem.Claim
import GoSem.ClaimJoined
import GoSem.ClaimMapViews
import Derived.JoinedTies
import Derived.KernelRfl
namespace Go.Proofs.Ytbbjnjfakgjpcaa
/- THE CELL 'sum', in the pinned program and in every row, IS THE sha256 OF THE DUMP (.gsa) THAT YtbbjnjfakgjpcaaProg.lean LOADS. Nothing in Lean hashes anything: it is a label: what it is worth is what the hold of that sum in a sandbox is worth. -/
noncomputable def Try.pinned : Pinned := { name := "ytbbjnjfakgjpcaa", sum := "501a3302762bc8e3474e543b69e6639e7c2eddf33e2576a8ac581eb3493c8c32", checked := Try.checked }
namespace Rows
def none {H : Type} : Left H := { results := [], args := [] }

/-- 'escrowlaw11.RangesOrders': WHATEVER THE INPUT: true; the input reads as it did. -/
def rangesOrdersSpec : ChangeSpec := { name := "rangesOrders", fn := fun _ => fun
  | [d1, d2] => { results := [.lit (.bool true)], args := [d1, d2] }
  | _ => none }
def rangesOrdersRow : OpenClaim := { program := "ytbbjnjfakgjpcaa", sum := "501a3302762bc8e3474e543b69e6639e7c2eddf33e2576a8ac581eb3493c8c32", func := "escrow/escrowlaw11.RangesOrders", spec := "rangesOrders", apart := false }
def RangesOrdersSaid : Prop := rangesOrdersRow.holds Try.pinned (OpenSpec.ofChange rangesOrdersSpec)

/-- ITS FALSE NEIGHBOUR: 'it returns false'. Refute it at one input. -/
def rangesOrdersWrong : ChangeSpec := { name := "rangesOrders", fn := fun _ => fun
  | [d1, d2] => { results := [.lit (.bool false)], args := [d1, d2] }
  | _ => none }
def RangesOrdersWrongFalsely : Prop := rangesOrdersRow.holds Try.pinned (OpenSpec.ofChange rangesOrdersWrong)

/-- 'escrowlaw11.RangesNone': WHATEVER THE INPUT: true; the input reads as it did. -/
def rangesNoneSpec : ChangeSpec := { name := "rangesNone", fn := fun _ => fun
  | [d1, d2] => { results := [.lit (.bool true)], args := [d1, d2] }
  | _ => none }
def rangesNoneRow : OpenClaim := { program := "ytbbjnjfakgjpcaa", sum := "501a3302762bc8e3474e543b69e6639e7c2eddf33e2576a8ac581eb3493c8c32", func := "escrow/escrowlaw11.RangesNone", spec := "rangesNone", apart := false }
def RangesNoneSaid : Prop := rangesNoneRow.holds Try.pinned (OpenSpec.ofChange rangesNoneSpec)

/-- ITS FALSE NEIGHBOUR: 'it returns false'. Refute it at one input. -/
def rangesNoneWrong : ChangeSpec := { name := "rangesNone", fn := fun _ => fun
  | [d1, d2] => { results := [.lit (.bool false)], args := [d1, d2] }
  | _ => none }
def RangesNoneWrongFalsely : Prop := rangesNoneRow.holds Try.pinned (OpenSpec.ofChange rangesNoneWrong)

/-- 'escrowlaw11.RangesPieces': WHATEVER THE INPUT: true; the input reads as it did. -/
def rangesPiecesSpec : ChangeSpec := { name := "rangesPieces", fn := fun _ => fun
  | [d1, d2] => { results := [.lit (.bool true)], args := [d1, d2] }
  | _ => none }
def rangesPiecesRow : OpenClaim := { program := "ytbbjnjfakgjpcaa", sum := "501a3302762bc8e3474e543b69e6639e7c2eddf33e2576a8ac581eb3493c8c32", func := "escrow/escrowlaw11.RangesPieces", spec := "rangesPieces", apart := false }
def RangesPiecesSaid : Prop := rangesPiecesRow.holds Try.pinned (OpenSpec.ofChange rangesPiecesSpec)

/-- ITS FALSE NEIGHBOUR: 'it returns false'. Refute it at one input. -/
def rangesPiecesWrong : ChangeSpec := { name := "rangesPieces", fn := fun _ => fun
  | [d1, d2] => { results := [.lit (.bool false)], args := [d1, d2] }
  | _ => none }
def RangesPiecesWrongFalsely : Prop := rangesPiecesRow.holds Try.pinned (OpenSpec.ofChange rangesPiecesWrong)

/-- 'escrowlaw11.RangesSets': WHATEVER THE INPUT: true; the input reads as it did. -/
def rangesSetsSpec : ChangeSpec := { name := "rangesSets", fn := fun _ => fun
  | [d1, d2, d3] => { results := [.lit (.bool true)], args := [d1, d2, d3] }
  | _ => none }
def rangesSetsRow : OpenClaim := { program := "ytbbjnjfakgjpcaa", sum := "501a3302762bc8e3474e543b69e6639e7c2eddf33e2576a8ac581eb3493c8c32", func := "escrow/escrowlaw11.RangesSets", spec := "rangesSets", apart := false }
def RangesSetsSaid : Prop := rangesSetsRow.holds Try.pinned (OpenSpec.ofChange rangesSetsSpec)

/-- ITS FALSE NEIGHBOUR: 'it returns false'. Refute it at one input. -/
def rangesSetsWrong : ChangeSpec := { name := "rangesSets", fn := fun _ => fun
  | [d1, d2, d3] => { results := [.lit (.bool false)], args := [d1, d2, d3] }
  | _ => none }
def RangesSetsWrongFalsely : Prop := rangesSetsRow.holds Try.pinned (OpenSpec.ofChange rangesSetsWrong)

/-- 'escrowlaw11.RangesEach': WHATEVER THE INPUT: true; the input reads as it did. -/
def rangesEachSpec : ChangeSpec := { name := "rangesEach", fn := fun _ => fun
  | [d] => { results := [.lit (.bool true)], args := [d] }
  | _ => none }
def rangesEachRow : OpenClaim := { program := "ytbbjnjfakgjpcaa", sum := "501a3302762bc8e3474e543b69e6639e7c2eddf33e2576a8ac581eb3493c8c32", func := "escrow/escrowlaw11.RangesEach", spec := "rangesEach", apart := false }
def RangesEachSaid : Prop := rangesEachRow.holds Try.pinned (OpenSpec.ofChange rangesEachSpec)

/-- ITS FALSE NEIGHBOUR: 'it returns false'. Refute it at one input. -/
def rangesEachWrong : ChangeSpec := { name := "rangesEach", fn := fun _ => fun
  | [d] => { results := [.lit (.bool false)], args := [d] }
  | _ => none }
def RangesEachWrongFalsely : Prop := rangesEachRow.holds Try.pinned (OpenSpec.ofChange rangesEachWrong)

/- THE SECOND FORM. 'bulk': how many values and letters a reading holds, each counted each time it is reached (what is shared counts as often as it is met; a slice's spare places count too). A statement '..UptoSaid' is the law's where the arguments, and the package variables that the reading takes, are together of bulk at most 1048576: NARROWER than '..Said'. Prove '..Said' where nothing that the law and all that it calls make is longer than what came in: it says more and counts as full. Else prove '..UptoSaid'. A law counts once. -/
mutual
def uptoBulk {H : Type} : DataW H → Nat
  | .lit (.string bytes) => bytes.length + 1
  | .lit _ => 1
  | .nil => 1
  | .ptr d => uptoBulk d + 1
  | .slice elems spare => uptoBulkAll elems + uptoBulkAll spare + 1
  | .agg parts => uptoBulkAll parts + 1
  | .iface _ d => uptoBulk d + 1
  | .map entries => uptoBulkEntries entries + 1
  | .held _ => 1
def uptoBulkAll {H : Type} : List (DataW H) → Nat
  | [] => 0
  | d :: r => uptoBulk d + uptoBulkAll r
def uptoBulkEntries {H : Type} : List (Lit × DataW H) → Nat
  | [] => 0
  | x :: r => uptoBulkEntry x + uptoBulkEntries r
def uptoBulkEntry {H : Type} : Lit × DataW H → Nat
  | (.string bytes, d) => bytes.length + uptoBulk d + 1
  | (_, d) => uptoBulk d + 1
 end
def uptoSmall : (H : Type) → List (DataW H) → Bool := fun _ ds => decide (uptoBulkAll ds ≤ 1048576)
def OpenSpec.upto (s : _root_.Go.ChangeSpec) : _root_.Go.OpenSpec := { _root_.Go.OpenSpec.ofChange s with cond := some uptoSmall }

/-- 'escrowlaw11.RangesOrders', WHERE WHAT IT READS IS OF BULK AT MOST 1048576: true; the input reads as it did. -/
def rangesOrdersUptoRow : OpenClaim := { program := "ytbbjnjfakgjpcaa", sum := "501a3302762bc8e3474e543b69e6639e7c2eddf33e2576a8ac581eb3493c8c32", func := "escrow/escrowlaw11.RangesOrders", spec := "rangesOrders", apart := false, narrowed := true }
def RangesOrdersUptoSaid : Prop := rangesOrdersUptoRow.holds Try.pinned (OpenSpec.upto rangesOrdersSpec)

/-- 'escrowlaw11.RangesNone', WHERE WHAT IT READS IS OF BULK AT MOST 1048576: true; the input reads as it did. -/
def rangesNoneUptoRow : OpenClaim := { program := "ytbbjnjfakgjpcaa", sum := "501a3302762bc8e3474e543b69e6639e7c2eddf33e2576a8ac581eb3493c8c32", func := "escrow/escrowlaw11.RangesNone", spec := "rangesNone", apart := false, narrowed := true }
def RangesNoneUptoSaid : Prop := rangesNoneUptoRow.holds Try.pinned (OpenSpec.upto rangesNoneSpec)

/-- 'escrowlaw11.RangesPieces', WHERE WHAT IT READS IS OF BULK AT MOST 1048576: true; the input reads as it did. -/
def rangesPiecesUptoRow : OpenClaim := { program := "ytbbjnjfakgjpcaa", sum := "501a3302762bc8e3474e543b69e6639e7c2eddf33e2576a8ac581eb3493c8c32", func := "escrow/escrowlaw11.RangesPieces", spec := "rangesPieces", apart := false, narrowed := true }
def RangesPiecesUptoSaid : Prop := rangesPiecesUptoRow.holds Try.pinned (OpenSpec.upto rangesPiecesSpec)

/-- 'escrowlaw11.RangesSets', WHERE WHAT IT READS IS OF BULK AT MOST 1048576: true; the input reads as it did. -/
def rangesSetsUptoRow : OpenClaim := { program := "ytbbjnjfakgjpcaa", sum := "501a3302762bc8e3474e543b69e6639e7c2eddf33e2576a8ac581eb3493c8c32", func := "escrow/escrowlaw11.RangesSets", spec := "rangesSets", apart := false, narrowed := true }
def RangesSetsUptoSaid : Prop := rangesSetsUptoRow.holds Try.pinned (OpenSpec.upto rangesSetsSpec)

/-- 'escrowlaw11.RangesEach', WHERE WHAT IT READS IS OF BULK AT MOST 1048576: true; the input reads as it did. -/
def rangesEachUptoRow : OpenClaim := { program := "ytbbjnjfakgjpcaa", sum := "501a3302762bc8e3474e543b69e6639e7c2eddf33e2576a8ac581eb3493c8c32", func := "escrow/escrowlaw11.RangesEach", spec := "rangesEach", apart := false, narrowed := true }
def RangesEachUptoSaid : Prop := rangesEachUptoRow.holds Try.pinned (OpenSpec.upto rangesEachSpec)

end Rows
end Go.Proofs.Ytbbjnjfakgjpcaa
