/- The walk of rights. -/
import Derived.Test.YtckonmlcgfbojaaLSe
import Derived.Test.YtckonmlcgfbojaaLWkI
namespace Go.Proofs.Ytckonmlcgfbojaa
open Go.RowKit

set_option maxHeartbeats 1000000 in
theorem rights_any (s : Sc) (w : World) (h1 : -9223372036854775808 ≤ s.up - s.uu ∧ s.up - s.uu ≤ 9223372036854775807) (h2 : -9223372036854775808 ≤ s.down - s.ud ∧ s.down - s.ud ≤ 9223372036854775807) :
    Calls Try.prog 56 #[aSc s] w fun e w' => e = .returned (.agg #[.int .i64 (s.up - s.uu), .int .i64 (s.down - s.ud)]) ∧ Below w.heap.size w w' := by
  obtain ⟨s1, s2, s3, s4, s5⟩ := s
  obtain ⟨a1, a2⟩ := h1
  obtain ⟨b1, b2⟩ := h2
  simp only at a1 a2 b1 b2
  go_enter Try.func56, Try.ntmps56
  go_wp2
  refine bodyPost_ret (v := .agg #[.int .i64 (s2 - s4), .int .i64 (s3 - s5)]) (by simp [results, Try.results56, go_sem, *]) rfl ⟨rfl, ((Below.refl _ _).alloc (Nat.le_refl _) _).alloc (by simp) _⟩

end Go.Proofs.Ytckonmlcgfbojaa
