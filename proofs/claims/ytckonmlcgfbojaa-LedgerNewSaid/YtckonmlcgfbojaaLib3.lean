/- Laws for the walk: make with a length and a capacity; x[:k]. -/
import Derived.Test.YtckonmlcgfbojaaLib2
namespace Go.Proofs.Ytckonmlcgfbojaa
open Go.RowKit

/-- 'make([]T, n, m)'. -/
theorem wpList_make_len {P : Program} {w : World} {ops : Array Oper} {rest : List Oper} {o : Oper} {a : Act} {Q : Exit → Act → World → Prop}
    (hg : o.guard = none) (l c : Operand) (t : TypeId) (hop : o.op = Op.makeSlice t l c)
    (base : Nat) (e : TypeId) (i : TypeInfo) (z : Value) (size bytes : Nat) (h1 : P.underlying t = some (.slice e)) (h2 : P.info? e = some i) (h3 : i.zero = some z) (h4 : i.size = size) (h5 : i.bytes = bytes)
    (kl kc : IntKind) (L C : Int) (n m : Nat) (hl : a.eval l = .int kl L) (hc : a.eval c = .int kc C) (hL : L = (n : Int)) (hC : C = (m : Int)) (hnm : n ≤ m) (b2 : bytes * m ≤ 281474976710656) (b3 : m ≤ 9223372036854775807) (b4 : base ≤ w.heap.size)
    (hK : ∀ xs w', w'.ownsRow base e size (.slice (some ⟨w.heap.size, 0, none⟩) n m) n xs → w.grownBy w' none → wpList P ops Q rest (a.put o.dst (.slice (some ⟨w.heap.size, 0, none⟩) n m)) w') :
    wpList P ops Q (o :: rest) a w := by
  refine wpList_plain hg fun K hK' => ?_
  subst hL
  subst hC
  have hb : (i.bytes : Int) * (m : Int) ≤ 281474976710656 := by
    rw [h5]
    have h : ((bytes * m : Nat) : Int) ≤ 281474976710656 := by omega
    rwa [Int.natCast_mul] at h
  have hrun := run_make (P := P) w t e i z h1 h2 h3 kl kc n m (by omega) (by omega) hb (by omega)
  simp only [Int.toNat_natCast] at hrun
  have hsz : (madeCells z.cells (m * i.size)).size = m * i.size := size_madeCells _ _
  unfold Oper.wp
  simp [execOp, hop, hl, hc, hrun, Result.andThen]
  refine hK' _ _ (hK ((madeCells z.cells (m * i.size)).toList.take (n * size)) _ ⟨?_, .inr ⟨w.heap.size, m, _, rfl, b4, heap_alloc_new w _, hnm, by unfold maxLen; omega, by rw [hsz, h4], rfl⟩⟩ (World.grownBy_alloc w _ none))
  rw [List.length_take, Array.length_toList, hsz, h4]
  exact Nat.min_eq_left (Nat.mul_le_mul_right _ hnm)

/-- 'x[:k]': what lies there is known. -/
theorem wpList_slice_to {P : Program} {w : World} {ops : Array Oper} {rest : List Oper} {o : Oper} {a : Act} {Q : Exit → Act → World → Prop} (hgd : o.guard = none) (x hi : Operand) (t : TypeId)
    (ho : o.op = .slice t x none (some hi) none) (e : TypeId) (i : TypeInfo) (E : Nat) (hu : P.underlying t = some (.slice e)) (hinfo : P.info? e = some i) (_hsz : i.size = E)
    (ao : Option Addr) (n cap k : Nat) (cs : List Value) (hx : a.eval x = .slice ao n cap) (hlo : a.eval hi = .int .i64 (k : Nat)) (hk : k ≤ cap) (hrd : Rd w ao cs)
    (h : ∀ ao', Rd w ao' (cs.take (k * E)) → wpList P ops Q rest (a.put o.dst (.slice ao' k cap)) w) : wpList P ops Q (o :: rest) a w := by
  refine wpList_plain hgd fun K hK => ?_
  have hao : (if cap = 0 then ao else ao.map (·.add (0 * i.size))) = ao := by
    split
    · rfl
    · cases ao with
      | none => rfl
      | some b => simp [Addr.add]
  have h8 := hK _ _ (h _ (hrd.take (k * E)))
  have he : P.elem t = e := by simp [Program.elem, hu]
  have hu' : P.underlying t = some (.slice (P.elem t)) := by rw [he]; exact hu
  have hrun := run_slice_h (P := P) (w := w) t ao n cap hu' .i64 (k : Int) (by omega) (by omega)
  have hsz' : (sizeOf (P.elem t)).run P w = .ok i.size w := by simp [sizeOf, typeInfo, he, hinfo]
  simp only [hsz', Result.andThen, sliced, Int.toNat_natCast, Nat.sub_zero] at hrun
  rw [hao] at hrun
  have hrun2 : (Instr.sliceAt t (.slice ao n cap) none (some (.int .i64 (k : Int))) none).run P w = .ok (.slice ao k cap) w := by
    simp [Instr.sliceAt, run_underlying hu, hrun]
  unfold Oper.wp
  simp [execOp, ho, hx, hlo, hrun2, Result.andThen]
  exact h8

end Go.Proofs.Ytckonmlcgfbojaa
