/- The walks of isRow, rises. -/
import Derived.Test.YtckonmlcgfbojaaLSa
import Derived.Test.YtckonmlcgfbojaaLib
import Derived.IntWalk
namespace Go.Proofs.Ytckonmlcgfbojaa
open Go.RowKit

/-- f of each thing and its place. -/
def AllIx {α : Type} (f : Nat → α → Bool) (l : List α) : Prop := ∀ i (h : i < l.length), f i l[i] = true
instance {α : Type} (f : Nat → α → Bool) (l : List α) : Decidable (AllIx f l) := by unfold AllIx; exact inferInstance
def AllTo {α : Type} (f : Nat → α → Bool) (l : List α) (k : Nat) : Prop := ∀ i (h : i < l.length), i < k → f i l[i] = true
theorem allTo_zero {α : Type} (f : Nat → α → Bool) (l : List α) : AllTo f l 0 := fun i _ h => by omega
theorem AllTo.step {α : Type} {f : Nat → α → Bool} {l : List α} {k : Nat} (h : AllTo f l k) (hk : k < l.length) (h1 : f k l[k] = true) : AllTo f l (k + 1) := fun i hi hik => by
  by_cases e : i = k
  · subst e; exact h1
  · exact h i hi (by omega)
theorem AllTo.all {α : Type} {f : Nat → α → Bool} {l : List α} {k : Nat} (h : AllTo f l k) (hk : l.length ≤ k) : decide (AllIx f l) = true := by
  rw [decide_eq_true_iff]; exact fun i hi => h i hi (by omega)
theorem allIx_no {α : Type} {f : Nat → α → Bool} {l : List α} {k : Nat} (hk : k < l.length) (h1 : f k l[k] = false) : decide (AllIx f l) = false := by
  rw [decide_eq_false_iff_not]; intro h; rw [h k hk] at h1; cases h1

abbrev Rises (l : List Int) : Prop := l.Pairwise (· < ·)
theorem rises_snoc (l : List Int) (a b : Int) : Rises (l ++ [a] ++ [b]) ↔ Rises (l ++ [a]) ∧ a < b := by
  constructor
  · intro h
    have h2 := List.pairwise_append.1 h
    exact ⟨h2.1, h2.2.2 a (by simp) b (by simp)⟩
  · rintro ⟨h, hab⟩
    refine List.pairwise_append.2 ⟨h, by simp, fun x hx y hy => ?_⟩
    simp at hy; subst hy
    rcases List.mem_append.1 hx with hx | hx
    · have := (List.pairwise_append.1 h).2.2 x hx a (by simp); omega
    · simp at hx; subst hx; exact hab
theorem Rises.take {l : List Int} (h : Rises l) (k : Nat) : Rises (l.take k) := List.Pairwise.sublist (List.take_sublist k l) h

set_option maxHeartbeats 1000000 in
theorem rises_any (v : Value) (l : List Int) (w : World) (h : SlI w v l) :
    Calls Try.prog 61 #[v] w fun e w' => e = .returned (.bool (decide (Rises l))) ∧ Below w.heap.size w w' := by
  obtain ⟨ao, cap, rfl, hcap, hm⟩ := Sl.shape h
  go_enter Try.func61, Try.ntmps61
  go_wp2
  go_loopw [6] (fun i wr => ∃ k : Nat, k ≤ l.length ∧ i = .int .i64 k ∧ Rises (l.take k) ∧ Below w.heap.size w wr) (fun i _ => l.length - (intOf i).toNat)
  case atStart => exact ⟨0, Nat.zero_le _, rfl, by simp, Below.refl _ _⟩
  case round =>
    obtain ⟨k, hk, rfl, hh, hb⟩ := hrel
    have HH := Lib.hid hh
    clear hh
    rcases Nat.lt_or_ge k l.length with hlt | hge
    · obtain ⟨b, off, rfl, hbl, hc1⟩ := SlI.cell h hb (Nat.le_refl _) k hlt
      have HS := Lib.hid (take_snoc l k hlt)
      rcases Nat.eq_zero_or_pos k with rfl | hpos
      · go_wp2
        go_quiet (fail)
        go_wp2
        go_roundw
        case rel => exact ⟨1, by omega, by go_num, by rw [HS.out]; simp, below_drewN hb _⟩
        case measure => simp [intOf]; omega
      · obtain ⟨j, rfl⟩ : ∃ j, k = j + 1 := ⟨k - 1, by omega⟩
        have hltj : j < l.length := by omega
        obtain ⟨b', off', hbo, _, hc2⟩ := SlI.cell h hb (Nat.le_refl _) j hltj
        cases hbo
        have HR : Hid (Rises l → Rises (l.take j ++ [l[j]] ++ [l[j + 1]])) := fun h => by have := h.take (j + 1 + 1); rw [HS.out, take_snoc l j hltj] at this; exact this
        have HJ := Lib.hid (take_snoc l j hltj)
        generalize l[j + 1] = y at *
        generalize l[j] = x at *
        clear hpos
        by_cases d4 : y ≤ x
        · go_wp2
          go_quiet (fail)
          go_wp2
          go_ret
          exact ⟨ret_bool (by symm; rw [decide_eq_false_iff_not]; intro hr; have := (rises_snoc _ x y).1 (HR.out hr); omega), below_drewN hb _⟩
        have e4 : decide (y ≤ x) = false := by simpa using d4
        go_wp2
        go_quiet (fail)
        go_wp2
        go_roundw
        case rel => exact ⟨j + 1 + 1, by omega, by go_num, by rw [HS.out, HJ.out]; have h9 := HH.out; rw [HJ.out] at h9; exact (rises_snoc _ x y).2 ⟨h9, by omega⟩, below_drewN hb _⟩
        case measure => simp [intOf]; omega
    · go_wp2
      go_ret
      exact ⟨ret_bool (by symm; rw [decide_eq_true_iff]; have := HH.out; rw [List.take_of_length_le hge] at this; exact this), hb⟩

set_option maxHeartbeats 1000000 in
theorem isRow_any (v : Value) (l : List Rg) (w : World) (h : SlR w v l) :
    Calls Try.prog 60 #[v] w fun e w' => e = .returned (.bool (decide (RowP l))) ∧ Below w.heap.size w w' := by
  obtain ⟨ao, cap, rfl, hcap, hm⟩ := Sl.shape h
  go_enter Try.func60, Try.ntmps60
  go_wp2
  go_loopw [7] (fun i wr => ∃ k : Nat, k ≤ l.length ∧ i = .int .i64 k ∧ RowP (l.take k) ∧ Below w.heap.size w wr) (fun i _ => l.length - (intOf i).toNat)
  case atStart => exact ⟨0, Nat.zero_le _, rfl, ⟨by simp [Small], by simp⟩, Below.refl _ _⟩
  case round =>
    obtain ⟨k, hk, rfl, hh, hb⟩ := hrel
    have HH := Lib.hid hh
    clear hh
    have hzr := hb.size
    rcases Nat.lt_or_ge k l.length with hlt | hge
    · obtain ⟨b, off, rfl, hbl, hc1, hc2⟩ := h.pair hb (Nat.le_refl _) k hlt
      have HS := Lib.hid (take_snoc l k hlt)
      rcases Nat.eq_zero_or_pos k with rfl | hpos
      · simp only [Nat.zero_mul, Nat.add_zero] at hc1 hc2
        have HR : Hid (RowP l → RowP [l[0]]) := fun h => by have := h.take 1; rw [HS.out] at this; simpa using this
        generalize l[0] = r at *
        obtain ⟨x, y⟩ := r
        simp only at hc1 hc2
        by_cases d1 : x < 0
        · go_wp2
          go_quiet (fail)
          go_wp2
          go_ret
          exact ⟨ret_bool (by symm; rw [decide_eq_false_iff_not]; intro hr; have := (rowP_one x y).1 (HR.out hr); omega), below_drewN (hb.alloc hzr _) _⟩
        have e1 : decide (x < 0) = false := by simpa using d1
        by_cases d2 : y ≤ x
        · go_wp2
          go_quiet (fail)
          go_wp2
          go_ret
          exact ⟨ret_bool (by symm; rw [decide_eq_false_iff_not]; intro hr; have := (rowP_one x y).1 (HR.out hr); omega), below_drewN (hb.alloc hzr _) _⟩
        have e2 : decide (y ≤ x) = false := by simpa using d2
        by_cases d3 : 1073741824 < y
        · go_wp2
          go_quiet (fail)
          go_wp2
          go_ret
          exact ⟨ret_bool (by symm; rw [decide_eq_false_iff_not]; intro hr; have := (rowP_one x y).1 (HR.out hr); omega), below_drewN (hb.alloc hzr _) _⟩
        have e3 : decide (1073741824 < y) = false := by simpa using d3
        go_wp2
        go_quiet (fail)
        go_wp2
        go_roundw
        case rel => exact ⟨1, by omega, by go_num, by rw [HS.out]; exact (rowP_one x y).2 (by omega), below_drewN (hb.alloc hzr _) _⟩
        case measure => simp [intOf]; omega
      · obtain ⟨j, rfl⟩ : ∃ j, k = j + 1 := ⟨k - 1, by omega⟩
        have hltj : j < l.length := by omega
        obtain ⟨b', off', hbo, _, hc3, hc4⟩ := h.pair hb (Nat.le_refl _) j hltj
        cases hbo
        have HR : Hid (RowP l → RowP (l.take j ++ [l[j]] ++ [l[j + 1]])) := fun h => by have := h.take (j + 1 + 1); rw [HS.out, take_snoc l j hltj] at this; exact this
        have HJ := Lib.hid (take_snoc l j hltj)
        generalize l[j + 1] = r at *
        generalize l[j] = r0 at *
        obtain ⟨x, y⟩ := r
        obtain ⟨x0, y0⟩ := r0
        simp only at hc1 hc2 hc3 hc4
        clear hpos hc3
        by_cases d1 : x < 0
        · go_wp2
          go_quiet (fail)
          go_wp2
          go_ret
          exact ⟨ret_bool (by symm; rw [decide_eq_false_iff_not]; intro hr; have := (rowP_snoc _ x0 y0 x y).1 (HR.out hr); omega), below_drewN (hb.alloc hzr _) _⟩
        have e1 : decide (x < 0) = false := by simpa using d1
        by_cases d2 : y ≤ x
        · go_wp2
          go_quiet (fail)
          go_wp2
          go_ret
          exact ⟨ret_bool (by symm; rw [decide_eq_false_iff_not]; intro hr; have := (rowP_snoc _ x0 y0 x y).1 (HR.out hr); omega), below_drewN (hb.alloc hzr _) _⟩
        have e2 : decide (y ≤ x) = false := by simpa using d2
        by_cases d3 : 1073741824 < y
        · go_wp2
          go_quiet (fail)
          go_wp2
          go_ret
          exact ⟨ret_bool (by symm; rw [decide_eq_false_iff_not]; intro hr; have := (rowP_snoc _ x0 y0 x y).1 (HR.out hr); omega), below_drewN (hb.alloc hzr _) _⟩
        have e3 : decide (1073741824 < y) = false := by simpa using d3
        have hbr : b < wr.heap.size := by omega
        have hwj : IntKind.i64.wrap (j : Int) = j := IntWalk.i64_in _ (by omega)
        by_cases d4 : x ≤ y0
        · go_wp2
          go_quiet (fail)
          go_wp2
          go_ret
          exact ⟨ret_bool (by symm; rw [decide_eq_false_iff_not]; intro hr; have := (rowP_snoc _ x0 y0 x y).1 (HR.out hr); omega), below_drewN (hb.alloc hzr _) _⟩
        have e4 : decide (x ≤ y0) = false := by simpa using d4
        go_wp2
        go_quiet (fail)
        go_wp2
        go_roundw
        case rel => exact ⟨j + 1 + 1, by omega, by go_num, by rw [HS.out, HJ.out]; have h9 := HH.out; rw [HJ.out] at h9; exact (rowP_snoc _ x0 y0 x y).2 ⟨h9, by omega⟩, below_drewN (hb.alloc hzr _) _⟩
        case measure => simp [intOf]; omega
    · go_wp2
      go_ret
      exact ⟨ret_bool (by symm; rw [decide_eq_true_iff]; have := HH.out; rw [List.take_of_length_le hge] at this; exact this), hb⟩

end Go.Proofs.Ytckonmlcgfbojaa
