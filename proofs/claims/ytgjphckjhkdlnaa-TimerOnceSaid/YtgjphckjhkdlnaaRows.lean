/-
  No cell of these rows narrows 'for every input' (looked for: loops, veiled, ifaces, maps, wideKeys, modest, calm, conditions, laid).
  DERIVED. THE GIVEN ROWS OF THIS SEAT. 7 by the template 'for every input the law returns true; each argument reads behind the call as it read before'; 0 by the template 'total and deterministic' (their statements: YtgjphckjhkdlnaaTotals.lean).
  GIVEN WITH THE SEED: the statements are not yours to turn. If you find one false, say at which input.
  Laid BY PROGRAM, IN A SANDBOX (cutbox-rows.mjs): the forced cells as the released guide's own fill.sh prints them over the translation 0cefb2e305ebe8e3… (all of the seat's roots in one cut). By AI agents, Wed Nov 11 2026. No macro, syntax, notation, axiom, sorry.
-/
import Derived.Test.YtgjphckjhkdlnaaChecked
import GoSem.Claim
import GoSem.ClaimJoined
import GoSem.ClaimMapViews
import Derived.JoinedTies
import Derived.KernelRfl
namespace Go.Proofs.Ytgjphckjhkdlnaa
/- THE CELL 'sum', in the pinned program and in every row, IS THE sha256 OF THE DUMP (.gsa) THAT YtgjphckjhkdlnaaProg.lean LOADS. Nothing in Lean hashes anything: it is a label: what it is worth is what the hold of that sum in a sandbox is worth. -/
noncomputable def Try.pinned : Pinned := { name := "ytgjphckjhkdlnaa", sum := "0cefb2e305ebe8e376c4dfe49f7d3c2ed9877e9ae6e8fbd823752ccc12c9053f", checked := Try.checked }
namespace Rows
def none {H : Type} : Left H := { results := [], args := [] }

/-- 'escrowlaw6.TimerOnce': WHATEVER THE INPUT: true; the input reads as it did. -/
def timerOnceSpec : ChangeSpec := { name := "timerOnce", fn := fun _ => fun
  | [d1, d2, d3] => { results := [.lit (.bool true)], args := [d1, d2, d3] }
  | _ => none }
def timerOnceRow : OpenClaim := { program := "ytgjphckjhkdlnaa", sum := "0cefb2e305ebe8e376c4dfe49f7d3c2ed9877e9ae6e8fbd823752ccc12c9053f", func := "escrow/escrowlaw6.TimerOnce", spec := "timerOnce", unfollowed := true, recurses := true, apart := false }
def TimerOnceSaid : Prop := timerOnceRow.holds Try.pinned (OpenSpec.ofChange timerOnceSpec)

/-- ITS FALSE NEIGHBOUR: 'it returns false'. Refute it at one input. -/
def timerOnceWrong : ChangeSpec := { name := "timerOnce", fn := fun _ => fun
  | [d1, d2, d3] => { results := [.lit (.bool false)], args := [d1, d2, d3] }
  | _ => none }
def TimerOnceWrongFalsely : Prop := timerOnceRow.holds Try.pinned (OpenSpec.ofChange timerOnceWrong)

/-- 'escrowlaw6.TimerMany': WHATEVER THE INPUT: true; the input reads as it did. -/
def timerManySpec : ChangeSpec := { name := "timerMany", fn := fun _ => fun
  | [d1, d2] => { results := [.lit (.bool true)], args := [d1, d2] }
  | _ => none }
def timerManyRow : OpenClaim := { program := "ytgjphckjhkdlnaa", sum := "0cefb2e305ebe8e376c4dfe49f7d3c2ed9877e9ae6e8fbd823752ccc12c9053f", func := "escrow/escrowlaw6.TimerMany", spec := "timerMany", unfollowed := true, recurses := true, apart := false }
def TimerManySaid : Prop := timerManyRow.holds Try.pinned (OpenSpec.ofChange timerManySpec)

/-- ITS FALSE NEIGHBOUR: 'it returns false'. Refute it at one input. -/
def timerManyWrong : ChangeSpec := { name := "timerMany", fn := fun _ => fun
  | [d1, d2] => { results := [.lit (.bool false)], args := [d1, d2] }
  | _ => none }
def TimerManyWrongFalsely : Prop := timerManyRow.holds Try.pinned (OpenSpec.ofChange timerManyWrong)

/-- 'escrowlaw6.TimerSplit': WHATEVER THE INPUT: true; the input reads as it did. -/
def timerSplitSpec : ChangeSpec := { name := "timerSplit", fn := fun _ => fun
  | [d1, d2, d3] => { results := [.lit (.bool true)], args := [d1, d2, d3] }
  | _ => none }
def timerSplitRow : OpenClaim := { program := "ytgjphckjhkdlnaa", sum := "0cefb2e305ebe8e376c4dfe49f7d3c2ed9877e9ae6e8fbd823752ccc12c9053f", func := "escrow/escrowlaw6.TimerSplit", spec := "timerSplit", unfollowed := true, recurses := true, apart := false }
def TimerSplitSaid : Prop := timerSplitRow.holds Try.pinned (OpenSpec.ofChange timerSplitSpec)

/-- ITS FALSE NEIGHBOUR: 'it returns false'. Refute it at one input. -/
def timerSplitWrong : ChangeSpec := { name := "timerSplit", fn := fun _ => fun
  | [d1, d2, d3] => { results := [.lit (.bool false)], args := [d1, d2, d3] }
  | _ => none }
def TimerSplitWrongFalsely : Prop := timerSplitRow.holds Try.pinned (OpenSpec.ofChange timerSplitWrong)

/-- 'escrowlaw6.TimerFar': WHATEVER THE INPUT: true; the input reads as it did. -/
def timerFarSpec : ChangeSpec := { name := "timerFar", fn := fun _ => fun
  | [d] => { results := [.lit (.bool true)], args := [d] }
  | _ => none }
def timerFarRow : OpenClaim := { program := "ytgjphckjhkdlnaa", sum := "0cefb2e305ebe8e376c4dfe49f7d3c2ed9877e9ae6e8fbd823752ccc12c9053f", func := "escrow/escrowlaw6.TimerFar", spec := "timerFar", unfollowed := true, recurses := true, apart := false }
def TimerFarSaid : Prop := timerFarRow.holds Try.pinned (OpenSpec.ofChange timerFarSpec)

/-- ITS FALSE NEIGHBOUR: 'it returns false'. Refute it at one input. -/
def timerFarWrong : ChangeSpec := { name := "timerFar", fn := fun _ => fun
  | [d] => { results := [.lit (.bool false)], args := [d] }
  | _ => none }
def TimerFarWrongFalsely : Prop := timerFarRow.holds Try.pinned (OpenSpec.ofChange timerFarWrong)

/-- 'escrowlaw6.TimerPlays': WHATEVER THE INPUT: true; the input reads as it did. -/
def timerPlaysSpec : ChangeSpec := { name := "timerPlays", fn := fun _ => fun
  | [d1, d2, d3] => { results := [.lit (.bool true)], args := [d1, d2, d3] }
  | _ => none }
def timerPlaysRow : OpenClaim := { program := "ytgjphckjhkdlnaa", sum := "0cefb2e305ebe8e376c4dfe49f7d3c2ed9877e9ae6e8fbd823752ccc12c9053f", func := "escrow/escrowlaw6.TimerPlays", spec := "timerPlays", unfollowed := true, recurses := true, apart := false }
def TimerPlaysSaid : Prop := timerPlaysRow.holds Try.pinned (OpenSpec.ofChange timerPlaysSpec)

/-- ITS FALSE NEIGHBOUR: 'it returns false'. Refute it at one input. -/
def timerPlaysWrong : ChangeSpec := { name := "timerPlays", fn := fun _ => fun
  | [d1, d2, d3] => { results := [.lit (.bool false)], args := [d1, d2, d3] }
  | _ => none }
def TimerPlaysWrongFalsely : Prop := timerPlaysRow.holds Try.pinned (OpenSpec.ofChange timerPlaysWrong)

/-- 'escrowlaw6.TimerSets': WHATEVER THE INPUT: true; the input reads as it did. -/
def timerSetsSpec : ChangeSpec := { name := "timerSets", fn := fun _ => fun
  | [d1, d2, d3, d4] => { results := [.lit (.bool true)], args := [d1, d2, d3, d4] }
  | _ => none }
def timerSetsRow : OpenClaim := { program := "ytgjphckjhkdlnaa", sum := "0cefb2e305ebe8e376c4dfe49f7d3c2ed9877e9ae6e8fbd823752ccc12c9053f", func := "escrow/escrowlaw6.TimerSets", spec := "timerSets", unfollowed := true, recurses := true, apart := false }
def TimerSetsSaid : Prop := timerSetsRow.holds Try.pinned (OpenSpec.ofChange timerSetsSpec)

/-- ITS FALSE NEIGHBOUR: 'it returns false'. Refute it at one input. -/
def timerSetsWrong : ChangeSpec := { name := "timerSets", fn := fun _ => fun
  | [d1, d2, d3, d4] => { results := [.lit (.bool false)], args := [d1, d2, d3, d4] }
  | _ => none }
def TimerSetsWrongFalsely : Prop := timerSetsRow.holds Try.pinned (OpenSpec.ofChange timerSetsWrong)

/-- 'escrowlaw6.TimerNext': WHATEVER THE INPUT: true; the input reads as it did. -/
def timerNextSpec : ChangeSpec := { name := "timerNext", fn := fun _ => fun
  | [d1, d2, d3] => { results := [.lit (.bool true)], args := [d1, d2, d3] }
  | _ => none }
def timerNextRow : OpenClaim := { program := "ytgjphckjhkdlnaa", sum := "0cefb2e305ebe8e376c4dfe49f7d3c2ed9877e9ae6e8fbd823752ccc12c9053f", func := "escrow/escrowlaw6.TimerNext", spec := "timerNext", unfollowed := true, recurses := true, apart := false }
def TimerNextSaid : Prop := timerNextRow.holds Try.pinned (OpenSpec.ofChange timerNextSpec)

/-- ITS FALSE NEIGHBOUR: 'it returns false'. Refute it at one input. -/
def timerNextWrong : ChangeSpec := { name := "timerNext", fn := fun _ => fun
  | [d1, d2, d3] => { results := [.lit (.bool false)], args := [d1, d2, d3] }
  | _ => none }
def TimerNextWrongFalsely : Prop := timerNextRow.holds Try.pinned (OpenSpec.ofChange timerNextWrong)

/- THE SECOND FORM. 'bulk': how many values and letters a reading holds, each counted each time it is reached (what is shared counts as often as it is met; a slice's spare places count too). A statement '..UptoSaid' is the law's where the arguments, and the package variables that the reading takes, are together of bulk at most 1048576: NARROWER than '..Said'. Prove '..Said' where nothing that the law and all that it calls make is longer than what came in: it says more and counts as full. Else prove '..UptoSaid'. A law counts once. -/
mutual
def uptoBulk {H : Type} : DataW H → Nat
  | .lit (.string bytes) => bytes.length + 1
  | .lit _ => 1
  | .nil => 1
  | .ptr d => uptoBulk d + 1
  | .slice elems spare => uptoBulkAll elems + uptoBulkAll spare + 1
  | .agg parts => uptoBulkAll parts + 1
  | .iface _ d => uptoBulk d + 1
  | .map entries => uptoBulkEntries entries + 1
  | .held _ => 1
def uptoBulkAll {H : Type} : List (DataW H) → Nat
  | [] => 0
  | d :: r => uptoBulk d + uptoBulkAll r
def uptoBulkEntries {H : Type} : List (Lit × DataW H) → Nat
  | [] => 0
  | x :: r => uptoBulkEntry x + uptoBulkEntries r
def uptoBulkEntry {H : Type} : Lit × DataW H → Nat
  | (.string bytes, d) => bytes.length + uptoBulk d + 1
  | (_, d) => uptoBulk d + 1
 end
def uptoSmall : (H : Type) → List (DataW H) → Bool := fun _ ds => decide (uptoBulkAll ds ≤ 1048576)
def OpenSpec.upto (s : _root_.Go.ChangeSpec) : _root_.Go.OpenSpec := { _root_.Go.OpenSpec.ofChange s with cond := some uptoSmall }

/-- 'escrowlaw6.TimerOnce', WHERE WHAT IT READS IS OF BULK AT MOST 1048576: true; the input reads as it did. -/
def timerOnceUptoRow : OpenClaim := { program := "ytgjphckjhkdlnaa", sum := "0cefb2e305ebe8e376c4dfe49f7d3c2ed9877e9ae6e8fbd823752ccc12c9053f", func := "escrow/escrowlaw6.TimerOnce", spec := "timerOnce", unfollowed := true, recurses := true, apart := false, narrowed := true }
def TimerOnceUptoSaid : Prop := timerOnceUptoRow.holds Try.pinned (OpenSpec.upto timerOnceSpec)

/-- 'escrowlaw6.TimerMany', WHERE WHAT IT READS IS OF BULK AT MOST 1048576: true; the input reads as it did. -/
def timerManyUptoRow : OpenClaim := { program := "ytgjphckjhkdlnaa", sum := "0cefb2e305ebe8e376c4dfe49f7d3c2ed9877e9ae6e8fbd823752ccc12c9053f", func := "escrow/escrowlaw6.TimerMany", spec := "timerMany", unfollowed := true, recurses := true, apart := false, narrowed := true }
def TimerManyUptoSaid : Prop := timerManyUptoRow.holds Try.pinned (OpenSpec.upto timerManySpec)

/-- 'escrowlaw6.TimerSplit', WHERE WHAT IT READS IS OF BULK AT MOST 1048576: true; the input reads as it did. -/
def timerSplitUptoRow : OpenClaim := { program := "ytgjphckjhkdlnaa", sum := "0cefb2e305ebe8e376c4dfe49f7d3c2ed9877e9ae6e8fbd823752ccc12c9053f", func := "escrow/escrowlaw6.TimerSplit", spec := "timerSplit", unfollowed := true, recurses := true, apart := false, narrowed := true }
def TimerSplitUptoSaid : Prop := timerSplitUptoRow.holds Try.pinned (OpenSpec.upto timerSplitSpec)

/-- 'escrowlaw6.TimerFar', WHERE WHAT IT READS IS OF BULK AT MOST 1048576: true; the input reads as it did. -/
def timerFarUptoRow : OpenClaim := { program := "ytgjphckjhkdlnaa", sum := "0cefb2e305ebe8e376c4dfe49f7d3c2ed9877e9ae6e8fbd823752ccc12c9053f", func := "escrow/escrowlaw6.TimerFar", spec := "timerFar", unfollowed := true, recurses := true, apart := false, narrowed := true }
def TimerFarUptoSaid : Prop := timerFarUptoRow.holds Try.pinned (OpenSpec.upto timerFarSpec)

/-- 'escrowlaw6.TimerPlays', WHERE WHAT IT READS IS OF BULK AT MOST 1048576: true; the input reads as it did. -/
def timerPlaysUptoRow : OpenClaim := { program := "ytgjphckjhkdlnaa", sum := "0cefb2e305ebe8e376c4dfe49f7d3c2ed9877e9ae6e8fbd823752ccc12c9053f", func := "escrow/escrowlaw6.TimerPlays", spec := "timerPlays", unfollowed := true, recurses := true, apart := false, narrowed := true }
def TimerPlaysUptoSaid : Prop := timerPlaysUptoRow.holds Try.pinned (OpenSpec.upto timerPlaysSpec)

/-- 'escrowlaw6.TimerSets', WHERE WHAT IT READS IS OF BULK AT MOST 1048576: true; the input reads as it did. -/
def timerSetsUptoRow : OpenClaim := { program := "ytgjphckjhkdlnaa", sum := "0cefb2e305ebe8e376c4dfe49f7d3c2ed9877e9ae6e8fbd823752ccc12c9053f", func := "escrow/escrowlaw6.TimerSets", spec := "timerSets", unfollowed := true, recurses := true, apart := false, narrowed := true }
def TimerSetsUptoSaid : Prop := timerSetsUptoRow.holds Try.pinned (OpenSpec.upto timerSetsSpec)

/-- 'escrowlaw6.TimerNext', WHERE WHAT IT READS IS OF BULK AT MOST 1048576: true; the input reads as it did. -/
def timerNextUptoRow : OpenClaim := { program := "ytgjphckjhkdlnaa", sum := "0cefb2e305ebe8e376c4dfe49f7d3c2ed9877e9ae6e8fbd823752ccc12c9053f", func := "escrow/escrowlaw6.TimerNext", spec := "timerNext", unfollowed := true, recurses := true, apart := false, narrowed := true }
def TimerNextUptoSaid : Prop := timerNextUptoRow.holds Try.pinned (OpenSpec.upto timerNextSpec)

end Rows
end Go.Proofs.Ytgjphckjhkdlnaa
