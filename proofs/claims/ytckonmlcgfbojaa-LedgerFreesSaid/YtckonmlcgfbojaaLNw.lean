/- Plain Lean: what New answers. -/
import Derived.Test.YtckonmlcgfbojaaLIx
import Derived.Test.YtckonmlcgfbojaaWkC
namespace Go.Proofs.Ytckonmlcgfbojaa

/-- A counter with all its rights in the pool. -/
def fill (c : Ct) : Ct := ⟨c.key, c.coll, c.lo, c.hi, c.start, c.hi - c.start, c.start - c.lo⟩
/-- Counters, one behind the other: an error's number, or the row. -/
def newGo : List Ct → List Ct → Int × List Ct
  | acc, [] => (0, acc)
  | acc, c :: t => if mayS c = false then (1, []) else if 0 ≤ ctIx acc c.key then (7, []) else newGo (acc ++ [fill c]) t
def newS (l : List Ct) (ids : Int) : Bk × Int :=
  if 4 < l.length then (⟨[], [], [], []⟩, 4) else
  if (newGo [] l).1 ≠ 0 then (⟨[], [], [], []⟩, (newGo [] l).1) else
  if 0 ≤ ids ∧ ids ≤ 1000 then (⟨(newGo [] l).2, addS [] (0, ids), [], []⟩, 0) else (⟨[], [], [], []⟩, 1)

theorem newGo_arg (acc l : List Ct) (k : Nat) (hk : k < l.length) (h : mayS l[k] = false) : newGo acc (l.drop k) = (1, []) := by
  rw [List.drop_eq_getElem_cons hk, newGo, if_pos h]
theorem newGo_is (acc l : List Ct) (k : Nat) (hk : k < l.length) (h : mayS l[k] = true) (h2 : 0 ≤ ctIx acc l[k].key) : newGo acc (l.drop k) = (7, []) := by
  rw [List.drop_eq_getElem_cons hk, newGo, if_neg (by rw [h]; simp), if_pos h2]
theorem newGo_step (acc l : List Ct) (k : Nat) (hk : k < l.length) (h : mayS l[k] = true) (h2 : ¬ 0 ≤ ctIx acc l[k].key) : newGo acc (l.drop k) = newGo (acc ++ [fill l[k]]) (l.drop (k + 1)) := by
  rw [List.drop_eq_getElem_cons hk, newGo, if_neg (by rw [h]; simp), if_neg h2]
theorem newGo_end (acc l : List Ct) (k : Nat) (hk : l.length ≤ k) : newGo acc (l.drop k) = (0, acc) := by
  rw [List.drop_of_length_le hk, newGo]

end Go.Proofs.Ytckonmlcgfbojaa
