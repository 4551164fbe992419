/- The walk of known. -/
import Derived.Test.YtlejcnobicbeoaaVPl2
namespace Go.Proofs.Ytlejcnobicbeoaa
open Go.RowKit

set_option maxHeartbeats 1000000 in
theorem known_any (w : World) : Calls Try.prog 9 #[] w fun e w' => e = .returned (.bool true) ∧ Below w.heap.size w w' := by
  have HS := Lib.hid (show stepS [] 1 1 3 = ([(1, 1, 3)], 0) by decide)
  have HG := Lib.hid (show getL [(1, 1, 3)] 1 1 = 3 by decide)
  go_enter Try.func9, Try.ntmps9
  go_wp2_with fail
  refine (step_any _ [] 1 1 3 _ (SlE.nil _) (by decide)).mono ?_
  rw [HS.out]
  rintro en w1 ⟨v1, rfl, hs1, hb1⟩
  have hsh := hs1
  obtain ⟨ao, cap, rfl, hcap, hm⟩ := Sl.shape hsh
  obtain ⟨b, off, rfl, hbl, hc1, hc2, hc3⟩ := hs1.three (Below.refl w1.heap.size w1) (Nat.le_refl _) 0 (by decide)
  have HC := Lib.hid (get_any _ _ 1 1 w1 hs1 (by decide))
  rw [HG.out] at HC
  clear hs1 hsh HS HG
  simp only [List.length_cons, List.length_nil, Nat.zero_add, Nat.zero_mul, Nat.add_zero, List.getElem_cons_zero] at hc1 hc2 hc3 HC
  go_wp2_with fail
  refine HC.out.mono ?_
  rintro en w2 ⟨rfl, hb2⟩
  go_wp2
  go_ret
  exact ⟨rfl, hb1.trans (hb2.mono hb1.size)⟩

end Go.Proofs.Ytlejcnobicbeoaa
