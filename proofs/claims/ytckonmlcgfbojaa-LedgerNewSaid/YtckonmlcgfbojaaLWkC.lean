/- The walks of may; the reference's Text, counter, place. -/
import Derived.Test.YtckonmlcgfbojaaLWkB
namespace Go.Proofs.Ytckonmlcgfbojaa
open Go.RowKit

/-- A counter that may be. -/
def mayS (c : Ct) : Bool := !c.key.toList.isEmpty && (textS c.key && ((decide (0 ≤ c.coll) && decide (c.coll ≤ 2)) && (decide (-1099511627776 ≤ c.lo) && (decide (c.lo ≤ c.start) && (decide (c.start ≤ c.hi) && decide (c.hi ≤ 1099511627776))))))

set_option maxHeartbeats 2000000 in
theorem may_any (c : Ct) (w : World) (hs : c.key.size ≤ maxLen) :
    Calls Try.prog 27 #[aCt c] w fun e w' => e = .returned (.bool (mayS c)) ∧ Below w.heap.size w w' := by
  have HP : Hid (mayS c = (!c.key.toList.isEmpty && (textS c.key && ((decide (0 ≤ c.coll) && decide (c.coll ≤ 2)) && (decide (-1099511627776 ≤ c.lo) && (decide (c.lo ≤ c.start) && (decide (c.start ≤ c.hi) && decide (c.hi ≤ 1099511627776)))))))) := rfl
  generalize mayS c = res at *
  obtain ⟨c1, c2, c3, c4, c5, c6, c7⟩ := c
  simp only at hs
  go_enter Try.func27, Try.ntmps27
  go_wp2_with (first
    | (go_at_call 70; refine (text_any _ _ hs).mono ?_; rintro e w1 ⟨rfl, rfl⟩)
    | (go_at_call 29; refine (lwithin_any _ _ _ _).mono ?_; rintro e w1 ⟨rfl, rfl⟩))
  all_goals go_ret
  all_goals refine ⟨ret_bool ?_, (Below.refl _ _).alloc (Nat.le_refl _) _⟩
  all_goals rw [HP.out]
  all_goals first
    | (simp [*]; done)
    | (simp [*]; omega)

end Go.Proofs.Ytckonmlcgfbojaa
