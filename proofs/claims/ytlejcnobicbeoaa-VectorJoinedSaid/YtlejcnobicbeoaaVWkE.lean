/- The walk of vector.laid. -/
import Derived.Test.YtlejcnobicbeoaaVWkD
import Derived.Test.YtlejcnobicbeoaaLib4
namespace Go.Proofs.Ytlejcnobicbeoaa
open Go.RowKit

theorem insS_at (m : List En) (e : En) : insS m e = if (atS m e.1 e.2.1).2 then m.set (atS m e.1 e.2.1).1 ((m.getD (atS m e.1 e.2.1).1 (0, 0, 0)).1, (m.getD (atS m e.1 e.2.1).1 (0, 0, 0)).2.1, max (m.getD (atS m e.1 e.2.1).1 (0, 0, 0)).2.2 e.2.2) else m.take (atS m e.1 e.2.1).1 ++ e :: m.drop (atS m e.1 e.2.1).1 := by
  induction m with
  | nil => rfl
  | cons x t ih =>
    unfold insS atS
    have hl : ltP x (e.1, e.2.1, 0) ↔ ltP x e := Iff.rfl
    have hq : eqP x (e.1, e.2.1, 0) ↔ eqP x e := Iff.rfl
    by_cases h : ltP x e
    · have h' := hl.2 h
      simp only [if_pos h, if_pos h', ih]
      split <;> simp
    · have h' : ¬ ltP x (e.1, e.2.1, 0) := fun hh => h (hl.1 hh)
      simp only [if_neg h, if_neg h']
      by_cases k : eqP x e
      · have k' := hq.2 k
        simp [k, k']
      · have k' : ¬ eqP x (e.1, e.2.1, 0) := fun hh => k (hq.1 hh)
        simp [k, k']

theorem cellsE_set2 (m : List En) (i : Nat) (hi : i < m.length) (z : Int) : (cellsE m).set (i * 3 + 2) (.int .i64 z) = cellsE (m.set i (m[i].1, m[i].2.1, z)) := by
  induction m generalizing i with
  | nil => simp at hi
  | cons r l ih =>
    cases i with
    | zero => simp [cellsE_cons]
    | succ i =>
      rw [show (i + 1) * 3 + 2 = (i * 3 + 2) + 1 + 1 + 1 from by omega, cellsE_cons]
      simp only [List.set_cons_succ, List.getElem_cons_succ]
      rw [ih i (by simpa using hi), cellsE_cons]

theorem cellsE_set3 (m : List En) (i : Nat) (hi : i < m.length) (x y z : Int) : (((cellsE m).set (i * 3) (.int .i64 x)).set (i * 3 + 1) (.int .i64 y)).set (i * 3 + 2) (.int .i64 z) = cellsE (m.set i (x, y, z)) := by
  induction m generalizing i with
  | nil => simp at hi
  | cons r l ih =>
    cases i with
    | zero => simp [cellsE_cons]
    | succ i =>
      rw [show (i + 1) * 3 = i * 3 + 1 + 1 + 1 from by omega, show i * 3 + 1 + 1 + 1 + 1 = (i * 3 + 1) + 1 + 1 + 1 from rfl, show i * 3 + 1 + 1 + 1 + 2 = (i * 3 + 2) + 1 + 1 + 1 from rfl, cellsE_cons]
      simp only [List.set_cons_succ]
      rw [ih i (by simpa using hi), cellsE_cons]

/-- The row after the shift. -/
def gapS (m : List En) (i : Nat) : List En := (m ++ [(0, 0, 0)]).take (i + 1) ++ m.drop i
theorem length_gapS (m : List En) (i : Nat) (hi : i ≤ m.length) : (gapS m i).length = m.length + 1 := by simp [gapS]; omega
theorem gapS_cells (m : List En) (i : Nat) (hi : i ≤ m.length) : (cellsE (m ++ [(0, 0, 0)])).take ((i + 1) * 3) ++ cellsE (m.drop i) ++ (cellsE (m ++ [(0, 0, 0)])).drop ((i + 1) * 3 + (m.length - i) * 3) = cellsE (gapS m i) := by
  have : (cellsE (m ++ [(0, 0, 0)])).drop ((i + 1) * 3 + (m.length - i) * 3) = [] := List.drop_eq_nil_of_le (by rw [length_cellsE]; simp; omega)
  rw [this, List.append_nil, cellsE_take, gapS, cellsE_append]
theorem gapS_set (m : List En) (i : Nat) (hi : i ≤ m.length) (e : En) : (gapS m i).set i e = m.take i ++ e :: m.drop i := by
  unfold gapS
  rw [List.set_append_left _ _ (by simp; omega)]
  have : ((m ++ [(0, 0, 0)]).take (i + 1)).set i e = m.take i ++ [e] := by
    rw [List.take_succ_eq_append_getElem (by simp; omega), List.take_append_of_le_length hi, List.set_append_right _ _ (by simp; omega)]
    simp [Nat.min_eq_left hi]
  rw [this]; simp

end Go.Proofs.Ytlejcnobicbeoaa
