/- Rows of ranges, in plain Lean: lists of pairs of numbers. -/
import Derived.Test.YtckonmlcgfbojaaLib
namespace Go.Proofs.Ytckonmlcgfbojaa
open Go.RowKit

abbrev Rg := Int × Int

/-- The cells of a list of ranges. -/
def cellsR (l : List Rg) : List Value := l.flatMap fun r => [.int .i64 r.1, .int .i64 r.2]

theorem cellsR_nil : cellsR [] = [] := rfl
theorem cellsR_cons (r : Rg) (l : List Rg) : cellsR (r :: l) = .int .i64 r.1 :: .int .i64 r.2 :: cellsR l := rfl
theorem cellsR_append (a b : List Rg) : cellsR (a ++ b) = cellsR a ++ cellsR b := by simp [cellsR]
theorem cellsR_snoc (a : List Rg) (p q : Int) : cellsR (a ++ [(p, q)]) = cellsR a ++ [.int .i64 p, .int .i64 q] := by simp [cellsR]
theorem length_cellsR (l : List Rg) : (cellsR l).length = l.length * 2 := by
  induction l with
  | nil => rfl
  | cons r l ih => rw [cellsR_cons]; simp [ih]; omega
theorem cellsR_at (l : List Rg) (k : Nat) (hk : k < l.length) : (cellsR l)[k * 2]? = some (.int .i64 l[k].1) ∧ (cellsR l)[k * 2 + 1]? = some (.int .i64 l[k].2) := by
  induction l generalizing k with
  | nil => simp at hk
  | cons r l ih =>
    cases k with
    | zero => simp [cellsR_cons]
    | succ k =>
      have h := ih k (by simpa using hk)
      rw [cellsR_cons]
      have e1 : (k + 1) * 2 = k * 2 + 1 + 1 := by omega
      have e2 : (k + 1) * 2 + 1 = k * 2 + 1 + 1 + 1 := by omega
      rw [e1]
      simpa using h
theorem cellsR_one (l : List Rg) : ∀ u ∈ cellsR l, u.oneCell' = true := by
  intro u hu
  simp only [cellsR, List.mem_flatMap] at hu
  obtain ⟨r, _, h⟩ := hu
  simp at h
  rcases h with rfl | rfl <;> rfl

theorem cellsR_drop (l : List Rg) (k : Nat) : (cellsR l).drop (k * 2) = cellsR (l.drop k) := by
  induction l generalizing k with
  | nil => simp [cellsR]
  | cons r l ih =>
    cases k with
    | zero => simp
    | succ k => rw [cellsR_cons, show (k + 1) * 2 = k * 2 + 1 + 1 from by omega, List.drop_succ_cons, List.drop_succ_cons, ih]; rfl
theorem cellsR_take (l : List Rg) (k : Nat) : (cellsR l).take (k * 2) = cellsR (l.take k) := by
  induction l generalizing k with
  | nil => simp [cellsR]
  | cons r l ih =>
    cases k with
    | zero => simp [cellsR]
    | succ k => rw [cellsR_cons, show (k + 1) * 2 = k * 2 + 1 + 1 from by omega, List.take_succ_cons, List.take_succ_cons, ih]; rfl

/-- v reads as the list of ranges l. -/
def SlR (w : World) (v : Value) (l : List Rg) : Prop := Sl w 2 v l.length (cellsR l)

theorem SlR.keep {w w' : World} {v : Value} {l : List Rg} {B : Nat} (h : SlR w v l) (hb : Below B w w') (hB : w.heap.size ≤ B) : SlR w' v l := Sl.keep h hb hB

theorem SlR.nil (w : World) : SlR w (.slice none 0 0) [] := Sl.nil w 2

theorem SlR.pair {w wr : World} {l : List Rg} {ao : Option Addr} {cap B : Nat} (h : SlR w (.slice ao l.length cap) l) (hb : Below B w wr) (hB : w.heap.size ≤ B) (k : Nat) (hk : k < l.length) :
    ∃ b off, ao = some ⟨b, off, none⟩ ∧ b < w.heap.size ∧ wr.cell? ⟨b, off + k * 2, none⟩ = some (.int .i64 l[k].1) ∧ wr.cell? ⟨b, off + k * 2 + 1, none⟩ = some (.int .i64 l[k].2) := by
  obtain ⟨b, off, h1, h2, h3⟩ := Sl.at h (by rw [length_cellsR]; omega)
  have hx := cellsR_at l k hk
  refine ⟨b, off, h1, h2, ?_, ?_⟩
  · rw [hb.cell (p := ⟨b, off + k * 2, none⟩) (Nat.lt_of_lt_of_le h2 hB)]; exact h3 _ _ hx.1
  · rw [hb.cell (p := ⟨b, off + k * 2 + 1, none⟩) (Nat.lt_of_lt_of_le h2 hB)]; exact h3 _ _ hx.2


/-- Numbers that a row's fields are within. -/
def Small (l : List Rg) : Prop := ∀ r ∈ l, 0 ≤ r.1 ∧ r.1 < r.2 ∧ r.2 ≤ 1073741824

/-- How many numbers. -/
def lenR : List Rg → Int
  | [] => 0
  | r :: l => (r.2 - r.1) + lenR l

theorem lenR_append (a b : List Rg) : lenR (a ++ b) = lenR a + lenR b := by
  induction a with
  | nil => simp [lenR]
  | cons r a ih => simp [lenR, ih]; omega
theorem lenR_bounds (l : List Rg) (h : Small l) : 0 ≤ lenR l ∧ lenR l ≤ l.length * 1073741824 := by
  induction l with
  | nil => simp [lenR]
  | cons r l ih =>
    have h1 := h r (by simp)
    have h2 := ih (fun x hx => h x (by simp [hx]))
    simp only [lenR, List.length_cons]; omega

def hasR (l : List Rg) (n : Int) : Bool := l.any fun r => decide (r.1 ≤ n) && decide (n < r.2)

theorem Small.take {l : List Rg} (h : Small l) (k : Nat) : Small (l.take k) := fun r hr => h r (List.mem_of_mem_take hr)

end Go.Proofs.Ytckonmlcgfbojaa
