/- The walks of known, Of, and of Add where nothing is added. -/
import Derived.Test.YtbbjnjfakgjpcaaWkC
import Derived.Test.YtbbjnjfakgjpcaaWkD
import Derived.Test.YtbbjnjfakgjpcaaPl
namespace Go.Proofs.Ytbbjnjfakgjpcaa
open Go.RowKit

set_option maxHeartbeats 1000000 in
theorem add_no (v : Value) (l : List Rg) (p q : Int) (w : World) (h : SlR w v l) (hl : l.length < 1000000) (h0 : ¬ Ok (p, q)) :
    Calls Try.prog 10 #[v, .agg #[.int .i64 p, .int .i64 q]] w (RetRow w 2 28 l.length (cellsR l)) := by
  unfold Ok at h0
  simp only at h0
  have hl2 : l.length < 1000000000 := by omega
  by_cases d0 : q ≤ p
  · clear h0
    go_enter Try.func10, Try.ntmps10
    go_wp2_with fail
    refine (own_any _ _ _ (h.keep ((Below.refl _ _).alloc (Nat.le_refl _) _) (Nat.le_refl _)) hl2).mono ?_
    rintro e w5 ⟨v5, rfl, ho5, hb5⟩
    go_wp2
    go_ret
    exact ⟨v5, rfl, owns_base ho5 (by simp), ((Below.refl _ _).alloc (Nat.le_refl _) _).trans (hb5.mono (by simp))⟩
  have e0 : decide (q ≤ p) = false := by simpa using d0
  by_cases d1 : p < 0
  · clear h0
    go_enter Try.func10, Try.ntmps10
    go_wp2_with fail
    refine (own_any _ _ _ (h.keep ((Below.refl _ _).alloc (Nat.le_refl _) _) (Nat.le_refl _)) hl2).mono ?_
    rintro e w5 ⟨v5, rfl, ho5, hb5⟩
    go_wp2
    go_ret
    exact ⟨v5, rfl, owns_base ho5 (by simp), ((Below.refl _ _).alloc (Nat.le_refl _) _).trans (hb5.mono (by simp))⟩
  have e1 : decide (p < 0) = false := by simpa using d1
  have d2 : 1073741824 < q := by omega
  clear h0
  go_enter Try.func10, Try.ntmps10
  go_wp2_with fail
  refine (own_any _ _ _ (h.keep ((Below.refl _ _).alloc (Nat.le_refl _) _) (Nat.le_refl _)) hl2).mono ?_
  rintro e w5 ⟨v5, rfl, ho5, hb5⟩
  go_wp2
  go_ret
  exact ⟨v5, rfl, owns_base ho5 (by simp), ((Below.refl _ _).alloc (Nat.le_refl _) _).trans (hb5.mono (by simp))⟩

/-- ranges.Add, of whatever range. -/
theorem add_any (v : Value) (l : List Rg) (p q : Int) (w : World) (h : SlR w v l) (hl : l.length < 1000000) :
    Calls Try.prog 10 #[v, .agg #[.int .i64 p, .int .i64 q]] w (RetRow w 2 28 (addS l (p, q)).length (cellsR (addS l (p, q)))) := by
  by_cases hr : Ok (p, q)
  · have e : addS l (p, q) = addT l (p, q) := by
      unfold addS; unfold Ok at hr; simp only at hr ⊢; rw [if_neg (by omega)]
    rw [e]
    unfold Ok at hr
    exact add_yes v l p q w h hl hr.2.1 hr.1 hr.2.2
  · have e : addS l (p, q) = l := by
      unfold addS; unfold Ok at hr; simp only at hr ⊢; rw [if_pos (by omega)]
    rw [e]
    exact add_no v l p q w h hl hr

set_option maxHeartbeats 1000000 in
theorem known_any (w : World) : Calls Try.prog 8 #[] w fun e w' => e = .returned (.bool true) ∧ Below w.heap.size w w' := by
  go_enter Try.func8, Try.ntmps8
  go_wp2_with fail
  have ho := owns_lit w w.heap.size w.heap.size 28 2 #[.int .i64 0, .int .i64 3] 1 rfl (Nat.le_refl _) (by omega) rfl
  have hs : SlR (w.alloc (.cells #[.int .i64 0, .int .i64 3] 28)) (.slice (some ⟨w.heap.size, 0, none⟩) 1 1) [(0, 3)] := sl_of_owns ho
  refine (add_yes _ _ _ _ _ hs (by simp) (by omega) (by omega) (by omega)).mono ?_
  rintro e w5 ⟨v5, rfl, ho5, hb5⟩
  have hE : addT [(0, 3)] (3, 5) = [(0, 5)] := by decide
  rw [hE] at ho5
  have hs5 : SlR w5 v5 [(0, 5)] := sl_of_owns ho5
  obtain ⟨ao, cap, rfl, hcap, hm⟩ := Sl.shape hs5
  obtain ⟨b, off, rfl, hbl, hc1, hc2⟩ := hs5.pair (Below.refl _ w5) (Nat.le_refl _) 0 (by simp)
  have hbb : Below w.heap.size w w5 := ((Below.refl _ _).alloc (Nat.le_refl _) _).trans (hb5.mono (by simp))
  simp only [List.getElem_cons_zero, Nat.zero_mul, Nat.add_zero] at hc1 hc2
  simp only [List.length_cons, List.length_nil, Nat.zero_add] at hcap ⊢
  clear hs ho hE ho5 hs5 hb5
  go_wp2
  go_ret
  exact ⟨rfl, hbb⟩

end Go.Proofs.Ytbbjnjfakgjpcaa
