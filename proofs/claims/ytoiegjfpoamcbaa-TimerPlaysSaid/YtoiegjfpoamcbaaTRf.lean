/- The reference's timers in memory. -/
import Derived.Test.YtoiegjfpoamcbaaTWkG
import Derived.Test.YtoiegjfpoamcbaaLib5
import Derived.StillTailTactics
namespace Go.Proofs.Ytoiegjfpoamcbaa
open Go.RowKit

theorem cell_of_heap {w w' : World} {b : Nat} (h : w'.heap[b]? = w.heap[b]?) (o : Nat) : w'.cell? ⟨b, o, none⟩ = w.cell? ⟨b, o, none⟩ := by simp [World.cell?, h]

theorem cellsW_drop (l : List Rw) (k : Nat) : (cellsW l).drop (k * 2) = cellsW (l.drop k) := by
  induction l generalizing k with
  | nil => simp [cellsW]
  | cons r l ih =>
    cases k with
    | zero => simp
    | succ k => rw [cellsW_cons, show (k + 1) * 2 = k * 2 + 1 + 1 by omega, List.drop_succ_cons, List.drop_succ_cons, ih]; rfl

/-- A slice whose block is as it was reads as it did. -/
theorem Sl.moved {w w' : World} {E : Nat} {v : Value} {n : Nat} {cs : List Value} (h : Sl w E v n cs) (hz : w.heap.size ≤ w'.heap.size) (hh : ∀ g, v.ownBlock = some g → w'.heap[g]? = w.heap[g]?) : Sl w' E v n cs := by
  obtain ⟨h0, ao, cap, rfl, h2, h3, h4, h5⟩ := h
  refine ⟨h0, ao, cap, rfl, h2, h3, h4, fun j u hu => ?_⟩
  obtain ⟨b, off, rfl, g2, g3⟩ := h5 j u hu
  exact ⟨b, off, rfl, Nat.lt_of_lt_of_le g2 hz, by rw [cell_of_heap (hh b rfl)]; exact g3⟩

/-- At block T lies the reference's object whose one field v reads as M. -/
structure Rf (w : World) (B T : Nat) (v : Value) (M : List Rw) : Prop where
  obj : w.heap[T]? = some (.cells #[v] 44 (0, 0))
  row : Sl w 2 v M.length (cellsW M)
  base : B ≤ T
  at_ : ∀ g, v.ownBlock = some g → B ≤ g ∧ g < w.heap.size ∧ g ≠ T

theorem Rf.lt {w : World} {B T : Nat} {v : Value} {M : List Rw} (h : Rf w B T v M) : T < w.heap.size := (Array.getElem?_eq_some_iff.1 h.obj).1
theorem Rf.cell {w : World} {B T : Nat} {v : Value} {M : List Rw} (h : Rf w B T v M) : w.cell? ⟨T, 0, none⟩ = some v ∧ w.frozen? ⟨T, 0, none⟩ = false := by
  have := h.obj
  constructor <;> simp [World.cell?, World.frozen?, this]
theorem Rf.keep {w w' : World} {B T : Nat} {v : Value} {M : List Rw} (h : Rf w B T v M) (hb : Below w.heap.size w w') : Rf w' B T v M :=
  ⟨by rw [hb.block T h.lt]; exact h.obj, h.row.moved hb.size (fun g hg => hb.block g (h.at_ g hg).2.1), h.base, fun g hg => by obtain ⟨a, b, c⟩ := h.at_ g hg; exact ⟨a, Nat.lt_of_lt_of_le b hb.size, c⟩⟩
theorem Rf.other {w w' : World} {B T T' : Nat} {v u u' : Value} {M : List Rw} (h : Rf w B T v M) (m : Mv T' w u w' u') (h1 : T ≠ T') (h2 : u.ownBlock ≠ some T) (h3 : ∀ g, v.ownBlock = some g → g ≠ T' ∧ u.ownBlock ≠ some g) : Rf w' B T v M :=
  ⟨by rw [m.block T h.lt h1 h2]; exact h.obj, h.row.moved m.size (fun g hg => m.block g (h.at_ g hg).2.1 (h3 g hg).1 (h3 g hg).2), h.base, fun g hg => by obtain ⟨a, b, c⟩ := h.at_ g hg; exact ⟨a, Nat.lt_of_lt_of_le b m.size, c⟩⟩
theorem Rf.two {w : World} {B T : Nat} {v : Value} {M : List Rw} (h : Rf w B T v M) (i : Nat) (hi : i < M.length) :
    ∃ g off cap, v = .slice (some ⟨g, off, none⟩) M.length cap ∧ M.length ≤ cap ∧ cap ≤ 9223372036854775807 ∧ g < w.heap.size ∧ g ≠ T ∧ w.cell? ⟨g, off + i * 2, none⟩ = some (.int .i64 M[i].1) ∧ w.cell? ⟨g, off + i * 2 + 1, none⟩ = some (.int .i64 M[i].2) := by
  obtain ⟨ao, cap, rfl, h1, h2⟩ := h.row.shape
  obtain ⟨g, off, rfl, hg, hc⟩ := Sl.at h.row (by rw [length_cellsW]; omega)
  exact ⟨g, off, cap, rfl, h1, h2, hg, (h.at_ g rfl).2.2, hc _ _ (cellsW_at M i hi).1, hc _ _ (cellsW_at M i hi).2⟩
/-- The field is set to a row that was laid behind the object, or to a part of its own. -/
theorem Rf.put {w wx : World} {B T : Nat} {v v' : Value} {M M' : List Rw} (h : Rf w B T v M) (hb : Below w.heap.size w wx) (hr : Sl wx 2 v' M'.length (cellsW M')) (ha : ∀ g, v'.ownBlock = some g → v.ownBlock = some g ∨ (w.heap.size ≤ g ∧ g < wx.heap.size)) :
    Rf (wx.setCell ⟨T, 0, none⟩ v') B T v' M' ∧ Mv T w v (wx.setCell ⟨T, 0, none⟩ v') v' := by
  have hT := h.lt
  have ho : wx.heap[T]? = some (.cells #[v] 44 (0, 0)) := by rw [hb.block T hT]; exact h.obj
  have hz : (wx.setCell ⟨T, 0, none⟩ v').heap.size = wx.heap.size := by simp [World.setCell]
  have hat : ∀ g, v'.ownBlock = some g → B ≤ g ∧ g < wx.heap.size ∧ g ≠ T := fun g hg => by
    have hbz := hb.size
    rcases ha g hg with h1 | ⟨h1, h2⟩
    · obtain ⟨a, b, c⟩ := h.at_ g h1; exact ⟨a, by omega, c⟩
    · have := h.base; exact ⟨by omega, h2, by omega⟩
  refine ⟨⟨?_, ?_, h.base, fun g hg => by rw [hz]; exact hat g hg⟩, ⟨?_, ?_, ?_, by rw [hz]; exact hb.size, fun b hb1 hT1 _ => ?_, fun g hg => ?_⟩⟩
  · simp [World.setCell, Array.getElem?_modify, ho]
  · exact hr.moved (by rw [hz]; exact Nat.le_refl _) (fun g hg => setCell_block_other _ _ _ _ (hat g hg).2.2)
  · show wx.os = _; rw [hb.os]
  · show wx.tape = _; rw [hb.tape]
  · show wx.output = _; rw [hb.output]
  · rw [setCell_block_other _ _ _ _ hT1, hb.block b hb1]
  · rcases ha g hg with h1 | ⟨h1, _⟩
    · exact .inl h1
    · exact .inr h1

/-- A timer, and the reference's, that share nothing. -/
structure Pair (w0 w : World) (T1 : Nat) (v1 : Value) (M1 : List Rw) (T2 : Nat) (v2 : Value) (M2 : List Rw) : Prop where
  one : St w0 w T1 v1 M1
  two : Rf w w0.heap.size T2 v2 M2
  ne : T1 ≠ T2
  a12 : v1.ownBlock ≠ some T2
  a21 : v2.ownBlock ≠ some T1
  ap : ∀ g, v1.ownBlock = some g → v2.ownBlock ≠ some g

theorem Pair.left {w0 w w' : World} {T1 T2 : Nat} {v1 v2 v1' : Value} {M1 M2 M1' : List Rw} (h : Pair w0 w T1 v1 M1 T2 v2 M2) (m : Mv T1 w v1 w' v1') (s : St w0 w' T1 v1' M1') : Pair w0 w' T1 v1' M1' T2 v2 M2 := by
  have hT2 := h.two.lt
  refine ⟨s, h.two.other m h.ne.symm h.a12 (fun g hg => ⟨fun e => h.a21 (by rw [hg, e]), fun e => h.ap g e hg⟩), h.ne, fun e => ?_, h.a21, fun g e => ?_⟩
  · rcases m.stay _ e with h1 | h1
    · exact h.a12 h1
    · omega
  · rcases m.stay _ e with h1 | h1
    · exact h.ap g h1
    · exact fun e2 => by have := (h.two.at_ g e2).2.1; omega
theorem Pair.right {w0 w w' : World} {T1 T2 : Nat} {v1 v2 v2' : Value} {M1 M2 M2' : List Rw} (h : Pair w0 w T1 v1 M1 T2 v2 M2) (m : Mv T2 w v2 w' v2') (s : Rf w' w0.heap.size T2 v2' M2') : Pair w0 w' T1 v1 M1 T2 v2' M2' := by
  have hT1 := h.one.lt
  have hbel : Below w0.heap.size w0 w' := h.one.bel.trans (m.below h.two.base (fun g hg => (h.two.at_ g hg).1) h.one.bel.size)
  refine ⟨⟨?_, h.one.srt, h.one.len, hbel⟩, s, h.ne, h.a12, fun e => ?_, fun g e => ?_⟩
  · obtain ⟨L, ht, hp, hh⟩ := h.one.rep
    exact ⟨L, ht.other m h.ne h.a21 (fun g hg => ⟨fun e => h.a12 (by rw [hg, e]), h.ap g hg⟩) (rfl : 0 = 0), hp, hh⟩
  · rcases m.stay _ e with h1 | h1
    · exact h.a21 h1
    · omega
  · intro e2
    rcases m.stay _ e2 with h1 | h1
    · exact h.ap g e h1
    · have := (h.one.blt g e).2; omega
theorem Pair.keep {w0 w w' : World} {T1 T2 : Nat} {v1 v2 : Value} {M1 M2 : List Rw} (h : Pair w0 w T1 v1 M1 T2 v2 M2) (hb : Below w.heap.size w w') : Pair w0 w' T1 v1 M1 T2 v2 M2 :=
  ⟨h.one.keep hb, h.two.keep hb, h.ne, h.a12, h.a21, h.ap⟩

theorem Rf.grown {w w' : World} {B T : Nat} {v : Value} {M : List Rw} {row : Option Nat} (h : Rf w B T v M) (hg : w.grownBy w' row) (h1 : row ≠ some T) (h2 : ∀ g, v.ownBlock = some g → row ≠ some g) : Rf w' B T v M :=
  ⟨by rw [hg.block T h.lt (fun e => h1 e.symm)]; exact h.obj, h.row.moved hg.size (fun g hg' => hg.block g (h.at_ g hg').2.1 (fun e => h2 g hg' e.symm)), h.base, fun g hg' => by obtain ⟨a, b, c⟩ := h.at_ g hg'; exact ⟨a, Nat.lt_of_lt_of_le b hg.size, c⟩⟩

/-- A row of which it is known what lies there. -/
theorem Sl.of_rd {w : World} {E n cap : Nat} {ao : Option Addr} {cs : List Value} (hl : cs.length = n * E) (hn : n ≤ cap) (hc : cap ≤ maxLen) (ha : ∃ b off, ao = some ⟨b, off, none⟩) (hr : Rd w ao cs) : Sl w E (.slice ao n cap) n cs := by
  obtain ⟨b, off, rfl⟩ := ha
  refine ⟨hl, _, cap, rfl, hn, hc, fun h => (by cases h), fun j u hu => ?_⟩
  obtain ⟨a, ha, h2⟩ := hr j u hu
  injection ha with ha
  subst ha
  rw [Addr.add_lit] at h2
  exact ⟨b, off, rfl, World.block_lt_of_cell? w _ h2, h2⟩

/-- 'x[k:]', and where it lies. -/
theorem wpList_slice_from_at {P : Program} {w : World} {ops : Array Oper} {rest : List Oper} {o : Oper} {a : Act} {Q : Exit → Act → World → Prop} (hgd : o.guard = none) (x lo : Operand) (t : TypeId)
    (ho : o.op = .slice t x (some lo) none none) (e : TypeId) (i : TypeInfo) (E : Nat) (hu : P.underlying t = some (.slice e)) (hi : P.info? e = some i) (hsz : i.size = E)
    (ao : Option Addr) (n cap k : Nat) (cs : List Value) (hx : a.eval x = .slice ao n cap) (hlo : a.eval lo = .int .i64 (k : Nat)) (hk : k ≤ n) (hn : n ≤ cap) (hrd : Rd w ao cs) (hcs : cs.length = n * E)
    (h : ∀ ao', Rd w ao' (cs.drop (k * E)) → (ao' = ao ∨ ao' = ao.map (·.add (k * E))) → wpList P ops Q rest (a.put o.dst (.slice ao' (n - k) (cap - k))) w) : wpList P ops Q (o :: rest) a w := by
  refine wpList_plain hgd fun K hK => ?_
  have h9 : Rd w (if cap = k then ao else ao.map (·.add (k * i.size))) (cs.drop (k * E)) := by
    rw [hsz]
    split
    · have : cs.drop (k * E) = [] := List.drop_eq_nil_of_le (by rw [hcs]; exact Nat.mul_le_mul_right _ (by omega))
      rw [this]; exact Rd.nil _ _
    · exact hrd.drop _
  have h8 := hK _ _ (h _ h9 (by rw [hsz]; split <;> simp))
  have he : P.elem t = e := by simp [Program.elem, hu]
  have hu' : P.underlying t = some (.slice (P.elem t)) := by rw [he]; exact hu
  have hrun := run_slice_l (P := P) (w := w) t ao n cap hu' .i64 (k : Int) (by omega) (by omega)
  have hsz' : (sizeOf (P.elem t)).run P w = .ok i.size w := by simp [sizeOf, typeInfo, he, hi]
  simp only [hsz', Result.andThen, sliced, Int.toNat_natCast] at hrun
  have hrun2 : (Instr.sliceAt t (.slice ao n cap) (some (.int .i64 (k : Int))) none none).run P w = .ok (.slice (if cap = k then ao else ao.map (·.add (k * i.size))) (n - k) (cap - k)) w := by
    simp [Instr.sliceAt, run_underlying hu, hrun]
  unfold Oper.wp
  simp [execOp, ho, hx, hlo, hrun2, Result.andThen]
  exact h8

/-- The reference's function was called. -/
def RfPost (w : World) (B T : Nat) (v : Value) (M : List Rw) (r : Value) (e : Ending) (w' : World) : Prop := e = .returned r ∧ ∃ v', Rf w' B T v' M ∧ Mv T w v w' v'

end Go.Proofs.Ytoiegjfpoamcbaa
