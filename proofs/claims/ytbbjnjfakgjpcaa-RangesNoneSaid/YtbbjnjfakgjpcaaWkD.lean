/- The walks of Of, within, Row. -/
import Derived.Test.YtbbjnjfakgjpcaaWkB
namespace Go.Proofs.Ytbbjnjfakgjpcaa
open Go.RowKit

theorem tmod_wrap (a n : Int) (hn : 0 < n) (h : a < 0) : (if a.tmod n < 0 then a.tmod n + n else a.tmod n) = a % n := by
  have h1 := Int.tmod_eq_emod (a := a) (b := n)
  have h2 := Int.emod_nonneg a (show n ≠ 0 by omega)
  have h3 := Int.emod_lt_of_pos a hn
  by_cases hd : n ∣ a
  · have h4 : a % n = 0 := Int.emod_eq_zero_of_dvd hd
    simp [hd] at h1
    rw [h1, h4]; simp
  · have h5 : ¬ 0 ≤ a := by omega
    simp [hd, h5] at h1
    have h6 : (n.natAbs : Int) = n := by omega
    have h7 : a % n ≠ 0 := fun e => hd (Int.dvd_of_emod_eq_zero e)
    rw [h1, h6]
    split <;> omega

set_option maxHeartbeats 400000 in
theorem within_any (a n : Int) (w : World) (hn : 0 < n) (hn2 : n ≤ 4611686018427387904) :
    Calls Try.prog 12 #[.int .i64 a, .int .i64 n] w fun e w' => e = .returned (.int .i64 (a % n)) ∧ w = w' := by
  have h2 := Int.emod_nonneg a (show n ≠ 0 by omega)
  have h3 := Int.emod_lt_of_pos a hn
  by_cases h : 0 ≤ a
  · go_enter Try.func12, Try.ntmps12
    go_wp2
    go_ret
    exact ⟨rfl, rfl⟩
  · have h4 := Lib.hid (tmod_wrap a n hn (by omega))
    have h5 : a.tmod n ≤ 0 := by rw [← Int.neg_neg a, Int.neg_tmod]; have := Int.tmod_nonneg n (show 0 ≤ -a by omega); omega
    have h6 : -n < a.tmod n := by rw [← Int.neg_neg a, Int.neg_tmod]; have := Int.tmod_lt_of_pos (-a) hn; omega
    go_enter Try.func12, Try.ntmps12
    go_wp2
    all_goals go_ret
    all_goals refine ⟨ret_int ?_, rfl⟩
    · rw [← h4.out, if_pos (by assumption)]
    · rw [← h4.out, if_neg (by omega)]

end Go.Proofs.Ytbbjnjfakgjpcaa
