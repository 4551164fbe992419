/- The law at its cases, run by the kernel. -/
import Derived.Test.YtknijgammlhhoaaGreatMr
set_option maxRecDepth 100000
set_option linter.all false
open Go Go.Ev Go.Ev.L
namespace Go.Proofs
noncomputable section
def x160 : Fact := ⟨3, [.resL 40,.resC 6 5,.resC 3 0], 0, [], T, 67751, []⟩
def tabx160 : List (Nat × List Fact) := [(4, [x7]), (5, [x8]), (9, [z3, z19]), (12, [x150, x159]), (13, [x151])]
def x169 : Fact := ⟨3, [.resL 40,.resC 6 5,.resC 3 1], 0, [], T, 66695, []⟩
def tabx169 : List (Nat × List Fact) := [(4, [x7]), (5, [x8]), (9, [z3, z20]), (12, [x150, x161]), (13, [x151])]
def x178 : Fact := ⟨3, [.resL 40,.resC 6 5,.resC 3 2], 0, [], T, 67942, []⟩
def tabx178 : List (Nat × List Fact) := [(4, [x7]), (5, [x8]), (9, [z3, z21]), (12, [x150, x161, x170]), (13, [x151])]
end
theorem rx160 : Facts.run Tryz.prog (hooksW laws tabx160) 100 [x160] = true := by decide +kernel
theorem tablex160 : TableOk Tryz.prog tabx160 := (TableOk.cons (AllF.cons rfl ok_x7 AllF.nil) (TableOk.cons (AllF.cons rfl ok_x8 AllF.nil) (TableOk.cons (AllF.cons rfl ok_z3 (AllF.cons rfl ok_z19 AllF.nil)) (TableOk.cons (AllF.cons rfl ok_x150 (AllF.cons rfl ok_x159 AllF.nil)) (TableOk.cons (AllF.cons rfl ok_x151 AllF.nil) TableOk.nil)))))
theorem ok_x160 : FactOk Tryz.prog x160 := Facts.goodW hm lawsOk tablex160 rx160 _ (.head _)
theorem rx169 : Facts.run Tryz.prog (hooksW laws tabx169) 100 [x169] = true := by decide +kernel
theorem tablex169 : TableOk Tryz.prog tabx169 := (TableOk.cons (AllF.cons rfl ok_x7 AllF.nil) (TableOk.cons (AllF.cons rfl ok_x8 AllF.nil) (TableOk.cons (AllF.cons rfl ok_z3 (AllF.cons rfl ok_z20 AllF.nil)) (TableOk.cons (AllF.cons rfl ok_x150 (AllF.cons rfl ok_x161 AllF.nil)) (TableOk.cons (AllF.cons rfl ok_x151 AllF.nil) TableOk.nil)))))
theorem ok_x169 : FactOk Tryz.prog x169 := Facts.goodW hm lawsOk tablex169 rx169 _ (.head _)
theorem rx178 : Facts.run Tryz.prog (hooksW laws tabx178) 100 [x178] = true := by decide +kernel
theorem tablex178 : TableOk Tryz.prog tabx178 := (TableOk.cons (AllF.cons rfl ok_x7 AllF.nil) (TableOk.cons (AllF.cons rfl ok_x8 AllF.nil) (TableOk.cons (AllF.cons rfl ok_z3 (AllF.cons rfl ok_z21 AllF.nil)) (TableOk.cons (AllF.cons rfl ok_x150 (AllF.cons rfl ok_x161 (AllF.cons rfl ok_x170 AllF.nil))) (TableOk.cons (AllF.cons rfl ok_x151 AllF.nil) TableOk.nil)))))
theorem ok_x178 : FactOk Tryz.prog x178 := Facts.goodW hm lawsOk tablex178 rx178 _ (.head _)
end Go.Proofs
