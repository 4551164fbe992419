/- The law at its cases, run by the kernel. -/
import Derived.Test.YtknijgammlhhoaaGreatMr
set_option maxRecDepth 100000
set_option linter.all false
open Go Go.Ev Go.Ev.L
namespace Go.Proofs
noncomputable section
def x112 : Fact := ⟨3, [.resL 40,.resC 6 3,.resC 3 1], 0, [], T, 63316, []⟩
def tabx112 : List (Nat × List Fact) := [(4, [x7]), (5, [x8]), (9, [z3, z14]), (12, [x95, x105]), (13, [x96])]
def x120 : Fact := ⟨3, [.resL 40,.resC 6 3,.resC 3 2], 0, [], T, 64393, []⟩
def tabx120 : List (Nat × List Fact) := [(4, [x7]), (5, [x8]), (9, [z3, z15]), (12, [x95, x105, x113]), (13, [x96])]
def x131 : Fact := ⟨3, [.resL 40,.resC 6 4,.resC 3 0], 0, [], T, 65485, []⟩
def tabx131 : List (Nat × List Fact) := [(4, [x7]), (5, [x8]), (9, [z3, z16]), (12, [x121, x130]), (13, [x122])]
def x140 : Fact := ⟨3, [.resL 40,.resC 6 4,.resC 3 1], 0, [], T, 64403, []⟩
def tabx140 : List (Nat × List Fact) := [(4, [x7]), (5, [x8]), (9, [z3, z17]), (12, [x121, x132]), (13, [x122])]
def x149 : Fact := ⟨3, [.resL 40,.resC 6 4,.resC 3 2], 0, [], T, 65487, []⟩
def tabx149 : List (Nat × List Fact) := [(4, [x7]), (5, [x8]), (9, [z3, z18]), (12, [x121, x132, x141]), (13, [x122])]
end
theorem rx112 : Facts.run Tryz.prog (hooksW laws tabx112) 100 [x112] = true := by decide +kernel
theorem tablex112 : TableOk Tryz.prog tabx112 := (TableOk.cons (AllF.cons rfl ok_x7 AllF.nil) (TableOk.cons (AllF.cons rfl ok_x8 AllF.nil) (TableOk.cons (AllF.cons rfl ok_z3 (AllF.cons rfl ok_z14 AllF.nil)) (TableOk.cons (AllF.cons rfl ok_x95 (AllF.cons rfl ok_x105 AllF.nil)) (TableOk.cons (AllF.cons rfl ok_x96 AllF.nil) TableOk.nil)))))
theorem ok_x112 : FactOk Tryz.prog x112 := Facts.goodW hm lawsOk tablex112 rx112 _ (.head _)
theorem rx120 : Facts.run Tryz.prog (hooksW laws tabx120) 100 [x120] = true := by decide +kernel
theorem tablex120 : TableOk Tryz.prog tabx120 := (TableOk.cons (AllF.cons rfl ok_x7 AllF.nil) (TableOk.cons (AllF.cons rfl ok_x8 AllF.nil) (TableOk.cons (AllF.cons rfl ok_z3 (AllF.cons rfl ok_z15 AllF.nil)) (TableOk.cons (AllF.cons rfl ok_x95 (AllF.cons rfl ok_x105 (AllF.cons rfl ok_x113 AllF.nil))) (TableOk.cons (AllF.cons rfl ok_x96 AllF.nil) TableOk.nil)))))
theorem ok_x120 : FactOk Tryz.prog x120 := Facts.goodW hm lawsOk tablex120 rx120 _ (.head _)
theorem rx131 : Facts.run Tryz.prog (hooksW laws tabx131) 100 [x131] = true := by decide +kernel
theorem tablex131 : TableOk Tryz.prog tabx131 := (TableOk.cons (AllF.cons rfl ok_x7 AllF.nil) (TableOk.cons (AllF.cons rfl ok_x8 AllF.nil) (TableOk.cons (AllF.cons rfl ok_z3 (AllF.cons rfl ok_z16 AllF.nil)) (TableOk.cons (AllF.cons rfl ok_x121 (AllF.cons rfl ok_x130 AllF.nil)) (TableOk.cons (AllF.cons rfl ok_x122 AllF.nil) TableOk.nil)))))
theorem ok_x131 : FactOk Tryz.prog x131 := Facts.goodW hm lawsOk tablex131 rx131 _ (.head _)
theorem rx140 : Facts.run Tryz.prog (hooksW laws tabx140) 100 [x140] = true := by decide +kernel
theorem tablex140 : TableOk Tryz.prog tabx140 := (TableOk.cons (AllF.cons rfl ok_x7 AllF.nil) (TableOk.cons (AllF.cons rfl ok_x8 AllF.nil) (TableOk.cons (AllF.cons rfl ok_z3 (AllF.cons rfl ok_z17 AllF.nil)) (TableOk.cons (AllF.cons rfl ok_x121 (AllF.cons rfl ok_x132 AllF.nil)) (TableOk.cons (AllF.cons rfl ok_x122 AllF.nil) TableOk.nil)))))
theorem ok_x140 : FactOk Tryz.prog x140 := Facts.goodW hm lawsOk tablex140 rx140 _ (.head _)
theorem rx149 : Facts.run Tryz.prog (hooksW laws tabx149) 100 [x149] = true := by decide +kernel
theorem tablex149 : TableOk Tryz.prog tabx149 := (TableOk.cons (AllF.cons rfl ok_x7 AllF.nil) (TableOk.cons (AllF.cons rfl ok_x8 AllF.nil) (TableOk.cons (AllF.cons rfl ok_z3 (AllF.cons rfl ok_z18 AllF.nil)) (TableOk.cons (AllF.cons rfl ok_x121 (AllF.cons rfl ok_x132 (AllF.cons rfl ok_x141 AllF.nil))) (TableOk.cons (AllF.cons rfl ok_x122 AllF.nil) TableOk.nil)))))
theorem ok_x149 : FactOk Tryz.prog x149 := Facts.goodW hm lawsOk tablex149 rx149 _ (.head _)
end Go.Proofs
