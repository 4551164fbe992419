/- The walk of ref.Row. -/
import Derived.Test.YtbbjnjfakgjpcaaWkB
namespace Go.Proofs.Ytbbjnjfakgjpcaa
open Go.RowKit

/-- A row: in order, none touching another, within the bounds. -/
def RowP (l : List Rg) : Prop := Small l ∧ l.Pairwise (fun a b => a.2 < b.1)

instance (l : List Rg) : Decidable (RowP l) := by unfold RowP Small; exact inferInstance

theorem RowP.ahead {a b : List Rg} (h : RowP (a ++ b)) : RowP a := ⟨fun r hr => h.1 r (by simp [hr]), (List.pairwise_append.1 h.2).1⟩
theorem RowP.take {l : List Rg} (h : RowP l) (k : Nat) : RowP (l.take k) := RowP.ahead (b := l.drop k) (by rw [List.take_append_drop]; exact h)

theorem rowP_one (x y : Int) : RowP [(x, y)] ↔ 0 ≤ x ∧ x < y ∧ y ≤ 1073741824 := by
  constructor
  · intro h; exact h.1 (x, y) (by simp)
  · intro h; exact ⟨fun r hr => by simp at hr; subst hr; exact h, by simp⟩
theorem rowP_snoc (l : List Rg) (x0 y0 x y : Int) : RowP (l ++ [(x0, y0)] ++ [(x, y)]) ↔ RowP (l ++ [(x0, y0)]) ∧ 0 ≤ x ∧ x < y ∧ y ≤ 1073741824 ∧ y0 < x := by
  constructor
  · intro h
    have h1 := h.1 (x, y) (by simp)
    have h2 := (List.pairwise_append.1 h.2).2.2 (x0, y0) (by simp) (x, y) (by simp)
    exact ⟨h.ahead, h1.1, h1.2.1, h1.2.2, h2⟩
  · rintro ⟨h, h1, h2, h3, h4⟩
    refine ⟨fun r hr => ?_, List.pairwise_append.2 ⟨h.2, by simp, fun a ha b hb => ?_⟩⟩
    · rw [List.mem_append] at hr
      rcases hr with hr | hr
      · exact h.1 r hr
      · simp at hr; subst hr; exact ⟨h1, h2, h3⟩
    · simp at hb; subst hb
      rw [List.mem_append] at ha
      rcases ha with ha | ha
      · have h5 := (List.pairwise_append.1 h.2).2.2 a ha (x0, y0) (by simp)
        have h6 := h.1 (x0, y0) (by simp)
        simp only at h5 h6 ⊢; omega
      · simp at ha; subst ha; exact h4

set_option maxHeartbeats 1000000 in
theorem row_any (v : Value) (l : List Rg) (w : World) (h : SlR w v l) :
    Calls Try.prog 17 #[v] w fun e w' => e = .returned (.bool (decide (RowP l))) ∧ Below w.heap.size w w' := by
  obtain ⟨ao, cap, rfl, hcap, hm⟩ := Sl.shape h
  go_enter Try.func17, Try.ntmps17
  go_wp2
  go_loopw [3] (fun i wr => ∃ k : Nat, k ≤ l.length ∧ i = .int .i64 k ∧ RowP (l.take k) ∧ Below w.heap.size w wr) (fun i _ => l.length - (intOf i).toNat)
  case atStart => exact ⟨0, Nat.zero_le _, rfl, ⟨by simp [Small], by simp⟩, Below.refl _ _⟩
  case round =>
    obtain ⟨k, hk, rfl, hh, hb⟩ := hrel
    have HH := Lib.hid hh
    clear hh
    rcases Nat.lt_or_ge k l.length with hlt | hge
    · obtain ⟨b, off, rfl, hbl, hc1, hc2⟩ := h.pair hb (Nat.le_refl _) k hlt
      have HS := Lib.hid (take_snoc l k hlt)
      rcases Nat.eq_zero_or_pos k with rfl | hpos
      · simp only [Nat.zero_mul, Nat.add_zero] at hc1 hc2
        have HR : Hid (RowP l → RowP [l[0]]) := fun h => by have := h.take 1; rw [HS.out] at this; simpa using this
        generalize l[0] = r at *
        obtain ⟨x, y⟩ := r
        simp only at hc1 hc2
        by_cases d1 : x < 0
        · go_wp2
          go_quiet (fail)
          go_wp2
          go_ret
          exact ⟨ret_bool (by symm; rw [decide_eq_false_iff_not]; intro hr; have := (rowP_one x y).1 (HR.out hr); omega), below_drewN hb _⟩
        have e1 : decide (x < 0) = false := by simpa using d1
        by_cases d2 : y ≤ x
        · go_wp2
          go_quiet (fail)
          go_wp2
          go_ret
          exact ⟨ret_bool (by symm; rw [decide_eq_false_iff_not]; intro hr; have := (rowP_one x y).1 (HR.out hr); omega), below_drewN hb _⟩
        have e2 : decide (y ≤ x) = false := by simpa using d2
        by_cases d3 : 1073741824 < y
        · go_wp2
          go_quiet (fail)
          go_wp2
          go_ret
          exact ⟨ret_bool (by symm; rw [decide_eq_false_iff_not]; intro hr; have := (rowP_one x y).1 (HR.out hr); omega), below_drewN hb _⟩
        have e3 : decide (1073741824 < y) = false := by simpa using d3
        go_wp2
        go_quiet (fail)
        go_wp2
        go_roundw
        case rel => exact ⟨1, by omega, by go_num, by rw [HS.out]; exact (rowP_one x y).2 (by omega), below_drewN hb _⟩
        case measure => simp [intOf]; omega
      · obtain ⟨j, rfl⟩ : ∃ j, k = j + 1 := ⟨k - 1, by omega⟩
        have hltj : j < l.length := by omega
        obtain ⟨b', off', hbo, _, hc3, hc4⟩ := h.pair hb (Nat.le_refl _) j hltj
        cases hbo
        have HR : Hid (RowP l → RowP (l.take j ++ [l[j]] ++ [l[j + 1]])) := fun h => by have := h.take (j + 1 + 1); rw [HS.out, take_snoc l j hltj] at this; exact this
        have HJ := Lib.hid (take_snoc l j hltj)
        generalize l[j + 1] = r at *
        generalize l[j] = r0 at *
        obtain ⟨x, y⟩ := r
        obtain ⟨x0, y0⟩ := r0
        simp only at hc1 hc2 hc3 hc4
        clear hpos hc3
        by_cases d1 : x < 0
        · go_wp2
          go_quiet (fail)
          go_wp2
          go_ret
          exact ⟨ret_bool (by symm; rw [decide_eq_false_iff_not]; intro hr; have := (rowP_snoc _ x0 y0 x y).1 (HR.out hr); omega), below_drewN hb _⟩
        have e1 : decide (x < 0) = false := by simpa using d1
        by_cases d2 : y ≤ x
        · go_wp2
          go_quiet (fail)
          go_wp2
          go_ret
          exact ⟨ret_bool (by symm; rw [decide_eq_false_iff_not]; intro hr; have := (rowP_snoc _ x0 y0 x y).1 (HR.out hr); omega), below_drewN hb _⟩
        have e2 : decide (y ≤ x) = false := by simpa using d2
        by_cases d3 : 1073741824 < y
        · go_wp2
          go_quiet (fail)
          go_wp2
          go_ret
          exact ⟨ret_bool (by symm; rw [decide_eq_false_iff_not]; intro hr; have := (rowP_snoc _ x0 y0 x y).1 (HR.out hr); omega), below_drewN hb _⟩
        have e3 : decide (1073741824 < y) = false := by simpa using d3
        by_cases d4 : x ≤ y0
        · go_wp2
          go_quiet (fail)
          go_wp2
          go_ret
          exact ⟨ret_bool (by symm; rw [decide_eq_false_iff_not]; intro hr; have := (rowP_snoc _ x0 y0 x y).1 (HR.out hr); omega), below_drewN hb _⟩
        have e4 : decide (x ≤ y0) = false := by simpa using d4
        go_wp2
        go_quiet (fail)
        go_wp2
        go_roundw
        case rel => exact ⟨j + 1 + 1, by omega, by go_num, by rw [HS.out, HJ.out]; have h9 := HH.out; rw [HJ.out] at h9; exact (rowP_snoc _ x0 y0 x y).2 ⟨h9, by omega⟩, below_drewN hb _⟩
        case measure => simp [intOf]; omega
    · go_wp2
      go_ret
      exact ⟨ret_bool (by symm; rw [decide_eq_true_iff]; have := HH.out; rw [List.take_of_length_le hge] at this; exact this), hb⟩

end Go.Proofs.Ytbbjnjfakgjpcaa
