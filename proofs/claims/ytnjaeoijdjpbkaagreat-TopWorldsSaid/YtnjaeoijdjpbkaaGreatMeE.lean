/- A great call that the kernel runs. -/
import Derived.Test.YtnjaeoijdjpbkaaGreatMdA
import Derived.Test.YtnjaeoijdjpbkaaGreatMdB
import Derived.Test.YtnjaeoijdjpbkaaGreatMeA
set_option maxRecDepth 100000
set_option linter.all false
open Go Go.Ev Go.Ev.L
namespace Go.Proofs
noncomputable section
def x4_0 : Fact := ⟨4, [], 0, [], T, 15887, []⟩
def tabx4_0 : List (Nat × List Fact) := [(5, [x5_0]), (32, [x32_11678, x32_13985, x32_15287]), (33, [x33_10765, x33_11389, x33_12801, x33_13677, x33_14257, x33_14977])]
end
theorem runx4_0 : Facts.run Tryz.prog (hooks tabx4_0) 100 [x4_0] = true := by decide +kernel
end Go.Proofs
