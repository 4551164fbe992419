/- The walk of Add where nothing is added; of Add. -/
import Derived.Test.YtckonmlcgfbojaaWkC
import Derived.Test.YtckonmlcgfbojaaPl
namespace Go.Proofs.Ytckonmlcgfbojaa
open Go.RowKit

set_option maxHeartbeats 1000000 in
theorem add_no (v : Value) (l : List Rg) (p q : Int) (w : World) (h : SlR w v l) (hl : l.length < 1000000) (h0 : ¬ Ok (p, q)) :
    Calls Try.prog 30 #[v, .agg #[.int .i64 p, .int .i64 q]] w (RetRow w 2 78 l.length (cellsR l)) := by
  unfold Ok at h0
  simp only at h0
  have hl2 : l.length < 1000000000 := by omega
  by_cases d0 : q ≤ p
  · clear h0
    go_enter Try.func30, Try.ntmps30
    go_wp2_with fail
    refine (own_any _ _ _ (h.keep ((Below.refl _ _).alloc (Nat.le_refl _) _) (Nat.le_refl _)) hl2).mono ?_
    rintro e w5 ⟨v5, rfl, ho5, hb5⟩
    go_wp2
    go_ret
    exact ⟨v5, rfl, owns_base ho5 (by simp), ((Below.refl _ _).alloc (Nat.le_refl _) _).trans (hb5.mono (by simp))⟩
  have e0 : decide (q ≤ p) = false := by simpa using d0
  by_cases d1 : p < 0
  · clear h0
    go_enter Try.func30, Try.ntmps30
    go_wp2_with fail
    refine (own_any _ _ _ (h.keep ((Below.refl _ _).alloc (Nat.le_refl _) _) (Nat.le_refl _)) hl2).mono ?_
    rintro e w5 ⟨v5, rfl, ho5, hb5⟩
    go_wp2
    go_ret
    exact ⟨v5, rfl, owns_base ho5 (by simp), ((Below.refl _ _).alloc (Nat.le_refl _) _).trans (hb5.mono (by simp))⟩
  have e1 : decide (p < 0) = false := by simpa using d1
  have d2 : 1073741824 < q := by omega
  clear h0
  go_enter Try.func30, Try.ntmps30
  go_wp2_with fail
  refine (own_any _ _ _ (h.keep ((Below.refl _ _).alloc (Nat.le_refl _) _) (Nat.le_refl _)) hl2).mono ?_
  rintro e w5 ⟨v5, rfl, ho5, hb5⟩
  go_wp2
  go_ret
  exact ⟨v5, rfl, owns_base ho5 (by simp), ((Below.refl _ _).alloc (Nat.le_refl _) _).trans (hb5.mono (by simp))⟩

/-- ranges.Add, of whatever range. -/
theorem add_any (v : Value) (l : List Rg) (p q : Int) (w : World) (h : SlR w v l) (hl : l.length < 1000000) :
    Calls Try.prog 30 #[v, .agg #[.int .i64 p, .int .i64 q]] w (RetRow w 2 78 (addS l (p, q)).length (cellsR (addS l (p, q)))) := by
  by_cases hr : Ok (p, q)
  · have e : addS l (p, q) = addT l (p, q) := by
      unfold addS; unfold Ok at hr; simp only at hr ⊢; rw [if_neg (by omega)]
    rw [e]
    unfold Ok at hr
    exact add_yes v l p q w h hl hr.2.1 hr.1 hr.2.2
  · have e : addS l (p, q) = l := by
      unfold addS; unfold Ok at hr; simp only at hr ⊢; rw [if_pos (by omega)]
    rw [e]
    exact add_no v l p q w h hl hr

end Go.Proofs.Ytckonmlcgfbojaa
