/- Timers in memory. -/
import Derived.Test.YtoiegjfpoamcbaaRows
import Derived.Test.YtoiegjfpoamcbaaTPl
import Derived.Test.YtoiegjfpoamcbaaLib4
import Derived.Test.YtoiegjfpoamcbaaSlI
namespace Go.Proofs.Ytoiegjfpoamcbaa
open Go.RowKit

def cellsW (l : List Rw) : List Value := l.flatMap fun r => [.int .i64 r.1, .int .i64 r.2]
theorem cellsW_cons (r : Rw) (l : List Rw) : cellsW (r :: l) = .int .i64 r.1 :: .int .i64 r.2 :: cellsW l := rfl
theorem cellsW_append (a b : List Rw) : cellsW (a ++ b) = cellsW a ++ cellsW b := by simp [cellsW]
theorem length_cellsW (l : List Rw) : (cellsW l).length = l.length * 2 := by
  induction l with
  | nil => rfl
  | cons r l ih => rw [cellsW_cons]; simp [ih]; omega
theorem cellsW_at (l : List Rw) (k : Nat) (hk : k < l.length) : (cellsW l)[k * 2]? = some (.int .i64 l[k].1) ∧ (cellsW l)[k * 2 + 1]? = some (.int .i64 l[k].2) := by
  induction l generalizing k with
  | nil => simp at hk
  | cons r l ih =>
    cases k with
    | zero => simp [cellsW_cons]
    | succ k =>
      have h := ih k (by simpa using hk)
      rw [cellsW_cons, show (k + 1) * 2 = k * 2 + 1 + 1 by omega]
      simpa using h
theorem cellsW_one (l : List Rw) : ∀ u ∈ cellsW l, u.oneCell' = true := by
  intro u hu
  simp only [cellsW, List.mem_flatMap] at hu
  obtain ⟨r, _, h⟩ := hu
  simp at h
  rcases h with rfl | rfl <;> rfl
theorem cellsW_set (m : List Rw) (i : Nat) (hi : i < m.length) (x y : Int) : ((cellsW m).set (i * 2) (.int .i64 x)).set (i * 2 + 1) (.int .i64 y) = cellsW (m.set i (x, y)) := by
  induction m generalizing i with
  | nil => simp at hi
  | cons r l ih =>
    cases i with
    | zero => simp [cellsW_cons]
    | succ i =>
      rw [show (i + 1) * 2 = i * 2 + 1 + 1 by omega, show i * 2 + 1 + 1 + 1 = (i * 2 + 1) + 1 + 1 by omega, cellsW_cons]
      simp only [List.set_cons_succ]
      rw [ih i (by simpa using hi), cellsW_cons]
theorem cellsW_set1 (m : List Rw) (i : Nat) (hi : i < m.length) (y : Int) : (cellsW m).set (i * 2 + 1) (.int .i64 y) = cellsW (m.set i (m[i].1, y)) := by
  induction m generalizing i with
  | nil => simp at hi
  | cons r l ih =>
    cases i with
    | zero => simp [cellsW_cons]
    | succ i =>
      rw [show (i + 1) * 2 + 1 = (i * 2 + 1) + 1 + 1 by omega, cellsW_cons]
      simp only [List.set_cons_succ, List.getElem_cons_succ]
      rw [ih i (by simpa using hi), cellsW_cons]
theorem cellsW_take (l : List Rw) (k : Nat) : (cellsW l).take (k * 2) = cellsW (l.take k) := by
  induction l generalizing k with
  | nil => simp [cellsW]
  | cons r l ih =>
    cases k with
    | zero => simp [cellsW]
    | succ k => rw [cellsW_cons, show (k + 1) * 2 = k * 2 + 1 + 1 by omega, List.take_succ_cons, List.take_succ_cons, List.take_succ_cons, ih]; rfl

/-- At block T lies an object whose one field v is a row of the call's own (from block B on) that reads as L. -/
structure Tm (w : World) (B T : Nat) (ty : TypeId) (el : TypeId) (v : Value) (L : List Rw) : Prop where
  obj : w.heap[T]? = some (.cells #[v] ty (0, 0))
  row : w.ownsRow B el 2 v L.length (cellsW L)
  base : B ≤ T
  apart : ∀ g, v.ownBlock = some g → g ≠ T

/-- Only the object at T and its row were turned; what its row lies in now was its own, or is new. -/
structure Mv (T : Nat) (w : World) (v : Value) (w' : World) (v' : Value) : Prop where
  os : w'.os = w.os
  tape : w'.tape = w.tape
  output : w'.output = w.output
  size : w.heap.size ≤ w'.heap.size
  block : ∀ k, k < w.heap.size → k ≠ T → v.ownBlock ≠ some k → w'.heap[k]? = w.heap[k]?
  stay : ∀ g, v'.ownBlock = some g → v.ownBlock = some g ∨ w.heap.size ≤ g

theorem Mv.refl (T : Nat) (w : World) (v : Value) : Mv T w v w v := ⟨rfl, rfl, rfl, Nat.le_refl _, fun _ _ _ _ => rfl, fun _ h => .inl h⟩
theorem Mv.trans {T : Nat} {w w1 w2 : World} {v v1 v2 : Value} (h : Mv T w v w1 v1) (k : Mv T w1 v1 w2 v2) : Mv T w v w2 v2 := by
  refine ⟨by rw [k.os, h.os], by rw [k.tape, h.tape], by rw [k.output, h.output], Nat.le_trans h.size k.size, fun b hb hT hv => ?_, fun g hg => ?_⟩
  · rw [k.block b (Nat.lt_of_lt_of_le hb h.size) hT (fun e => by rcases h.stay b e with h1 | h1; exact hv h1; omega), h.block b hb hT hv]
  · rcases k.stay g hg with h1 | h1
    · exact h.stay g h1
    · exact .inr (Nat.le_trans h.size h1)
theorem Mv.of_below {T : Nat} {w w' : World} {v : Value} (h : Below w.heap.size w w') : Mv T w v w' v := ⟨h.os, h.tape, h.output, h.size, fun k hk _ _ => h.block k hk, fun _ h => .inl h⟩
theorem Mv.below {T B : Nat} {w w' : World} {v v' : Value} (h : Mv T w v w' v') (hT : B ≤ T) (hv : ∀ g, v.ownBlock = some g → B ≤ g) (hB : B ≤ w.heap.size) : Below B w w' :=
  ⟨h.os, h.tape, h.output, h.size, fun k hk => h.block k (by omega) (by omega) (fun e => by have := hv k e; omega)⟩

theorem Tm.keep {w w' : World} {B T : Nat} {ty el : TypeId} {v : Value} {L : List Rw} (h : Tm w B T ty el v L) (hb : Below w.heap.size w w') : Tm w' B T ty el v L :=
  ⟨by rw [hb.block T (Array.getElem?_eq_some_iff.1 h.obj).1]; exact h.obj, owns_keep h.row hb (Nat.le_refl _), h.base, h.apart⟩
theorem Tm.lt {w : World} {B T : Nat} {ty el : TypeId} {v : Value} {L : List Rw} (h : Tm w B T ty el v L) : T < w.heap.size := (Array.getElem?_eq_some_iff.1 h.obj).1
theorem Tm.ge {w : World} {B T : Nat} {ty el : TypeId} {v : Value} {L : List Rw} (h : Tm w B T ty el v L) : ∀ g, v.ownBlock = some g → B ≤ g := owns_ge h.row
theorem Tm.blt {w : World} {B T : Nat} {ty el : TypeId} {v : Value} {L : List Rw} (h : Tm w B T ty el v L) : ∀ g, v.ownBlock = some g → g < w.heap.size := fun g hg => (h.row.lt g hg).2
/-- The field. -/
theorem Tm.cell {w : World} {B T : Nat} {ty el : TypeId} {v : Value} {L : List Rw} (h : Tm w B T ty el v L) : w.cell? ⟨T, 0, none⟩ = some v ∧ w.frozen? ⟨T, 0, none⟩ = false := by
  have := h.obj
  constructor <;> simp [World.cell?, World.frozen?, this]
/-- Another object's move leaves this one. -/
theorem Tm.other {w w' : World} {B T B' T' : Nat} {ty el : TypeId} {v u u' : Value} {L : List Rw} (h : Tm w B T ty el v L) (m : Mv T' w u w' u') (h1 : T ≠ T') (h2 : u.ownBlock ≠ some T) (h3 : ∀ g, v.ownBlock = some g → g ≠ T' ∧ u.ownBlock ≠ some g) (_hB : B' = B') : Tm w' B T ty el v L := by
  refine ⟨by rw [m.block T h.lt h1 h2]; exact h.obj, ?_, h.base, h.apart⟩
  obtain ⟨a, b⟩ := h.row
  refine ⟨a, ?_⟩
  rcases b with b | ⟨g, cap, cur, rfl, hg, hh, r⟩
  · exact .inl b
  · obtain ⟨e1, e2⟩ := h3 g rfl
    exact .inr ⟨g, cap, cur, rfl, hg, by rw [m.block g (Array.getElem?_eq_some_iff.1 hh).1 e1 e2]; exact hh, r⟩

end Go.Proofs.Ytoiegjfpoamcbaa
