/- The closed facts of the row. -/
import Derived.ProofKit
import Derived.Test.YtknijgammlhhoaaGreatRows
set_option maxRecDepth 100000
set_option linter.all false
open Go
namespace Go.Proofs.YtknijgammlhhoaaGreat
theorem a2 {a b : Bool} (h : a = true) (k : b = true) : (a && b) = true := by rw [h, k]; rfl
set_option maxHeartbeats 8000000 in
theorem closed : joinedFacts Tryz.prog 3 Tryz.f3 Rows.topExpirySpec Rows.topExpiryRow = true := by
  unfold joinedFacts
  repeat' with_reducible refine a2 ?_ ?_
  all_goals as_aux_lemma => kernel_rfl
set_option maxHeartbeats 8000000 in
theorem closed1 : Tryz.prog.funcNamed Rows.topExpiryRow.func = some 3 := by kernel_rfl
set_option maxHeartbeats 8000000 in
theorem closed2 : Tryz.f3.isInstance Tryz.prog Rows.topExpiryRow.origin Rows.topExpiryRow.targs := of_decide_eq_true (by kernel_rfl)
set_option maxHeartbeats 8000000 in
theorem closed3 : Tryz.f3.isWrapper Tryz.prog Rows.topExpiryRow.wrapper Rows.topExpiryRow.mainSum := by unfold Func.isWrapper; rw [if_neg (by decide +kernel)]; exact ⟨rfl, rfl⟩
end Go.Proofs.YtknijgammlhhoaaGreat
