/- Lists of entries in memory. -/
import Derived.Test.YtlejcnobicbeoaaRows
import Derived.Test.YtlejcnobicbeoaaVPl
import Derived.Test.YtlejcnobicbeoaaLib2
namespace Go.Proofs.Ytlejcnobicbeoaa
open Go.RowKit

def cellsE (l : List En) : List Value := l.flatMap fun r => [.int .i64 r.1, .int .i64 r.2.1, .int .i64 r.2.2]
theorem cellsE_cons (r : En) (l : List En) : cellsE (r :: l) = .int .i64 r.1 :: .int .i64 r.2.1 :: .int .i64 r.2.2 :: cellsE l := rfl
theorem cellsE_append (a b : List En) : cellsE (a ++ b) = cellsE a ++ cellsE b := by simp [cellsE]
theorem length_cellsE (l : List En) : (cellsE l).length = l.length * 3 := by
  induction l with
  | nil => rfl
  | cons r l ih => rw [cellsE_cons]; simp [ih]; omega
theorem cellsE_at (l : List En) (k : Nat) (hk : k < l.length) : (cellsE l)[k * 3]? = some (.int .i64 l[k].1) ∧ (cellsE l)[k * 3 + 1]? = some (.int .i64 l[k].2.1) ∧ (cellsE l)[k * 3 + 2]? = some (.int .i64 l[k].2.2) := by
  induction l generalizing k with
  | nil => simp at hk
  | cons r l ih =>
    cases k with
    | zero => simp [cellsE_cons]
    | succ k =>
      have h := ih k (by simpa using hk)
      rw [cellsE_cons]
      have e1 : (k + 1) * 3 = k * 3 + 1 + 1 + 1 := by omega
      rw [e1]
      simpa using h
theorem cellsE_one (l : List En) : ∀ u ∈ cellsE l, u.oneCell' = true := by
  intro u hu
  simp only [cellsE, List.mem_flatMap] at hu
  obtain ⟨r, _, h⟩ := hu
  simp at h
  rcases h with rfl | rfl | rfl <;> rfl

/-- v reads as the list of entries l. -/
def SlE (w : World) (v : Value) (l : List En) : Prop := Sl w 3 v l.length (cellsE l)
theorem SlE.keep {w w' : World} {v : Value} {l : List En} {B : Nat} (h : SlE w v l) (hb : Below B w w') (hB : w.heap.size ≤ B) : SlE w' v l := Sl.keep h hb hB
theorem SlE.nil (w : World) : SlE w (.slice none 0 0) [] := Sl.nil w 3

theorem SlE.three {w wr : World} {l : List En} {ao : Option Addr} {cap B : Nat} (h : SlE w (.slice ao l.length cap) l) (hb : Below B w wr) (hB : w.heap.size ≤ B) (k : Nat) (hk : k < l.length) :
    ∃ b off, ao = some ⟨b, off, none⟩ ∧ b < w.heap.size ∧ wr.cell? ⟨b, off + k * 3, none⟩ = some (.int .i64 l[k].1) ∧ wr.cell? ⟨b, off + k * 3 + 1, none⟩ = some (.int .i64 l[k].2.1) ∧ wr.cell? ⟨b, off + k * 3 + 2, none⟩ = some (.int .i64 l[k].2.2) := by
  obtain ⟨b, off, h1, h2, h3⟩ := Sl.at h (by rw [length_cellsE]; omega)
  have hx := cellsE_at l k hk
  have hlt := Nat.lt_of_lt_of_le h2 hB
  refine ⟨b, off, h1, h2, ?_, ?_, ?_⟩
  · rw [hb.cell (p := ⟨b, off + k * 3, none⟩) hlt]; exact h3 _ _ hx.1
  · rw [hb.cell (p := ⟨b, off + k * 3 + 1, none⟩) hlt]; exact h3 _ _ hx.2.1
  · rw [hb.cell (p := ⟨b, off + k * 3 + 2, none⟩) hlt]; exact h3 _ _ hx.2.2

theorem take_snocE {α : Type} (l : List α) (k : Nat) (h : k < l.length) : l.take (k + 1) = l.take k ++ [l[k]] := by
  rw [List.take_succ_eq_append_getElem h]

end Go.Proofs.Ytlejcnobicbeoaa
