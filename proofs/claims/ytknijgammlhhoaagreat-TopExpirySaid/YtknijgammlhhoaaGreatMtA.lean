/- The law at its cases, run by the kernel. -/
import Derived.Test.YtknijgammlhhoaaGreatMr
set_option maxRecDepth 100000
set_option linter.all false
open Go Go.Ev Go.Ev.L
namespace Go.Proofs
noncomputable section
def x26 : Fact := ⟨3, [.resL 40,.resC 6 0,.resC 3 0], 0, [], T, 59222, []⟩
def tabx26 : List (Nat × List Fact) := [(4, [x7]), (5, [x8]), (9, [z3, z4]), (12, [x17, x25]), (13, [x18])]
def x34 : Fact := ⟨3, [.resL 40,.resC 6 0,.resC 3 1], 0, [], T, 58305, []⟩
def tabx34 : List (Nat × List Fact) := [(4, [x7]), (5, [x8]), (9, [z3, z5]), (12, [x17, x27]), (13, [x18])]
def x42 : Fact := ⟨3, [.resL 40,.resC 6 0,.resC 3 2], 0, [], T, 59353, []⟩
def tabx42 : List (Nat × List Fact) := [(4, [x7]), (5, [x8]), (9, [z3, z6]), (12, [x17, x27, x35]), (13, [x18])]
def x52 : Fact := ⟨3, [.resL 40,.resC 6 1,.resC 3 0], 0, [], T, 62209, []⟩
def tabx52 : List (Nat × List Fact) := [(4, [x7]), (5, [x8]), (9, [z3, z7]), (12, [x43, x51]), (13, [x44])]
def x60 : Fact := ⟨3, [.resL 40,.resC 6 1,.resC 3 1], 0, [], T, 61160, []⟩
def tabx60 : List (Nat × List Fact) := [(4, [x7]), (5, [x8]), (9, [z3, z8]), (12, [x43, x53]), (13, [x44])]
end
theorem rx26 : Facts.run Tryz.prog (hooksW laws tabx26) 100 [x26] = true := by decide +kernel
theorem tablex26 : TableOk Tryz.prog tabx26 := (TableOk.cons (AllF.cons rfl ok_x7 AllF.nil) (TableOk.cons (AllF.cons rfl ok_x8 AllF.nil) (TableOk.cons (AllF.cons rfl ok_z3 (AllF.cons rfl ok_z4 AllF.nil)) (TableOk.cons (AllF.cons rfl ok_x17 (AllF.cons rfl ok_x25 AllF.nil)) (TableOk.cons (AllF.cons rfl ok_x18 AllF.nil) TableOk.nil)))))
theorem ok_x26 : FactOk Tryz.prog x26 := Facts.goodW hm lawsOk tablex26 rx26 _ (.head _)
theorem rx34 : Facts.run Tryz.prog (hooksW laws tabx34) 100 [x34] = true := by decide +kernel
theorem tablex34 : TableOk Tryz.prog tabx34 := (TableOk.cons (AllF.cons rfl ok_x7 AllF.nil) (TableOk.cons (AllF.cons rfl ok_x8 AllF.nil) (TableOk.cons (AllF.cons rfl ok_z3 (AllF.cons rfl ok_z5 AllF.nil)) (TableOk.cons (AllF.cons rfl ok_x17 (AllF.cons rfl ok_x27 AllF.nil)) (TableOk.cons (AllF.cons rfl ok_x18 AllF.nil) TableOk.nil)))))
theorem ok_x34 : FactOk Tryz.prog x34 := Facts.goodW hm lawsOk tablex34 rx34 _ (.head _)
theorem rx42 : Facts.run Tryz.prog (hooksW laws tabx42) 100 [x42] = true := by decide +kernel
theorem tablex42 : TableOk Tryz.prog tabx42 := (TableOk.cons (AllF.cons rfl ok_x7 AllF.nil) (TableOk.cons (AllF.cons rfl ok_x8 AllF.nil) (TableOk.cons (AllF.cons rfl ok_z3 (AllF.cons rfl ok_z6 AllF.nil)) (TableOk.cons (AllF.cons rfl ok_x17 (AllF.cons rfl ok_x27 (AllF.cons rfl ok_x35 AllF.nil))) (TableOk.cons (AllF.cons rfl ok_x18 AllF.nil) TableOk.nil)))))
theorem ok_x42 : FactOk Tryz.prog x42 := Facts.goodW hm lawsOk tablex42 rx42 _ (.head _)
theorem rx52 : Facts.run Tryz.prog (hooksW laws tabx52) 100 [x52] = true := by decide +kernel
theorem tablex52 : TableOk Tryz.prog tabx52 := (TableOk.cons (AllF.cons rfl ok_x7 AllF.nil) (TableOk.cons (AllF.cons rfl ok_x8 AllF.nil) (TableOk.cons (AllF.cons rfl ok_z3 (AllF.cons rfl ok_z7 AllF.nil)) (TableOk.cons (AllF.cons rfl ok_x43 (AllF.cons rfl ok_x51 AllF.nil)) (TableOk.cons (AllF.cons rfl ok_x44 AllF.nil) TableOk.nil)))))
theorem ok_x52 : FactOk Tryz.prog x52 := Facts.goodW hm lawsOk tablex52 rx52 _ (.head _)
theorem rx60 : Facts.run Tryz.prog (hooksW laws tabx60) 100 [x60] = true := by decide +kernel
theorem tablex60 : TableOk Tryz.prog tabx60 := (TableOk.cons (AllF.cons rfl ok_x7 AllF.nil) (TableOk.cons (AllF.cons rfl ok_x8 AllF.nil) (TableOk.cons (AllF.cons rfl ok_z3 (AllF.cons rfl ok_z8 AllF.nil)) (TableOk.cons (AllF.cons rfl ok_x43 (AllF.cons rfl ok_x53 AllF.nil)) (TableOk.cons (AllF.cons rfl ok_x44 AllF.nil) TableOk.nil)))))
theorem ok_x60 : FactOk Tryz.prog x60 := Facts.goodW hm lawsOk tablex60 rx60 _ (.head _)
end Go.Proofs
