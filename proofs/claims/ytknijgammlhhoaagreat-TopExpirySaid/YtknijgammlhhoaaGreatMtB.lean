/- The law at its cases, run by the kernel. -/
import Derived.Test.YtknijgammlhhoaaGreatMr
set_option maxRecDepth 100000
set_option linter.all false
open Go Go.Ev Go.Ev.L
namespace Go.Proofs
noncomputable section
def x68 : Fact := ⟨3, [.resL 40,.resC 6 1,.resC 3 2], 0, [], T, 62223, []⟩
def tabx68 : List (Nat × List Fact) := [(4, [x7]), (5, [x8]), (9, [z3, z9]), (12, [x43, x53, x61]), (13, [x44])]
def x78 : Fact := ⟨3, [.resL 40,.resC 6 2,.resC 3 0], 0, [], T, 63295, []⟩
def tabx78 : List (Nat × List Fact) := [(4, [x7]), (5, [x8]), (9, [z3, z10]), (12, [x69, x77]), (13, [x70])]
def x86 : Fact := ⟨3, [.resL 40,.resC 6 2,.resC 3 1], 0, [], T, 62235, []⟩
def tabx86 : List (Nat × List Fact) := [(4, [x7]), (5, [x8]), (9, [z3, z11]), (12, [x69, x79]), (13, [x70])]
def x94 : Fact := ⟨3, [.resL 40,.resC 6 2,.resC 3 2], 0, [], T, 63305, []⟩
def tabx94 : List (Nat × List Fact) := [(4, [x7]), (5, [x8]), (9, [z3, z12]), (12, [x69, x79, x87]), (13, [x70])]
def x104 : Fact := ⟨3, [.resL 40,.resC 6 3,.resC 3 0], 0, [], T, 64387, []⟩
def tabx104 : List (Nat × List Fact) := [(4, [x7]), (5, [x8]), (9, [z3, z13]), (12, [x95, x103]), (13, [x96])]
end
theorem rx68 : Facts.run Tryz.prog (hooksW laws tabx68) 100 [x68] = true := by decide +kernel
theorem tablex68 : TableOk Tryz.prog tabx68 := (TableOk.cons (AllF.cons rfl ok_x7 AllF.nil) (TableOk.cons (AllF.cons rfl ok_x8 AllF.nil) (TableOk.cons (AllF.cons rfl ok_z3 (AllF.cons rfl ok_z9 AllF.nil)) (TableOk.cons (AllF.cons rfl ok_x43 (AllF.cons rfl ok_x53 (AllF.cons rfl ok_x61 AllF.nil))) (TableOk.cons (AllF.cons rfl ok_x44 AllF.nil) TableOk.nil)))))
theorem ok_x68 : FactOk Tryz.prog x68 := Facts.goodW hm lawsOk tablex68 rx68 _ (.head _)
theorem rx78 : Facts.run Tryz.prog (hooksW laws tabx78) 100 [x78] = true := by decide +kernel
theorem tablex78 : TableOk Tryz.prog tabx78 := (TableOk.cons (AllF.cons rfl ok_x7 AllF.nil) (TableOk.cons (AllF.cons rfl ok_x8 AllF.nil) (TableOk.cons (AllF.cons rfl ok_z3 (AllF.cons rfl ok_z10 AllF.nil)) (TableOk.cons (AllF.cons rfl ok_x69 (AllF.cons rfl ok_x77 AllF.nil)) (TableOk.cons (AllF.cons rfl ok_x70 AllF.nil) TableOk.nil)))))
theorem ok_x78 : FactOk Tryz.prog x78 := Facts.goodW hm lawsOk tablex78 rx78 _ (.head _)
theorem rx86 : Facts.run Tryz.prog (hooksW laws tabx86) 100 [x86] = true := by decide +kernel
theorem tablex86 : TableOk Tryz.prog tabx86 := (TableOk.cons (AllF.cons rfl ok_x7 AllF.nil) (TableOk.cons (AllF.cons rfl ok_x8 AllF.nil) (TableOk.cons (AllF.cons rfl ok_z3 (AllF.cons rfl ok_z11 AllF.nil)) (TableOk.cons (AllF.cons rfl ok_x69 (AllF.cons rfl ok_x79 AllF.nil)) (TableOk.cons (AllF.cons rfl ok_x70 AllF.nil) TableOk.nil)))))
theorem ok_x86 : FactOk Tryz.prog x86 := Facts.goodW hm lawsOk tablex86 rx86 _ (.head _)
theorem rx94 : Facts.run Tryz.prog (hooksW laws tabx94) 100 [x94] = true := by decide +kernel
theorem tablex94 : TableOk Tryz.prog tabx94 := (TableOk.cons (AllF.cons rfl ok_x7 AllF.nil) (TableOk.cons (AllF.cons rfl ok_x8 AllF.nil) (TableOk.cons (AllF.cons rfl ok_z3 (AllF.cons rfl ok_z12 AllF.nil)) (TableOk.cons (AllF.cons rfl ok_x69 (AllF.cons rfl ok_x79 (AllF.cons rfl ok_x87 AllF.nil))) (TableOk.cons (AllF.cons rfl ok_x70 AllF.nil) TableOk.nil)))))
theorem ok_x94 : FactOk Tryz.prog x94 := Facts.goodW hm lawsOk tablex94 rx94 _ (.head _)
theorem rx104 : Facts.run Tryz.prog (hooksW laws tabx104) 100 [x104] = true := by decide +kernel
theorem tablex104 : TableOk Tryz.prog tabx104 := (TableOk.cons (AllF.cons rfl ok_x7 AllF.nil) (TableOk.cons (AllF.cons rfl ok_x8 AllF.nil) (TableOk.cons (AllF.cons rfl ok_z3 (AllF.cons rfl ok_z13 AllF.nil)) (TableOk.cons (AllF.cons rfl ok_x95 (AllF.cons rfl ok_x103 AllF.nil)) (TableOk.cons (AllF.cons rfl ok_x96 AllF.nil) TableOk.nil)))))
theorem ok_x104 : FactOk Tryz.prog x104 := Facts.goodW hm lawsOk tablex104 rx104 _ (.head _)
end Go.Proofs
