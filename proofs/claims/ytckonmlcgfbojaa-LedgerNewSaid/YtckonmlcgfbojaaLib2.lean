/- More small lemmas. -/
import Derived.Test.YtckonmlcgfbojaaLib
import Derived.Deep.CutBlock
import Derived.Deep.DeepCutAuto
namespace Go.Proofs.Ytckonmlcgfbojaa
open Go.RowKit

theorem Apart.step2 {w : World} {base : Nat} {e : TypeId} {size : Nat} {v v1 v' : Value} {n : Nat} {xs : List Value} {B : Nat} (h : Apart v v') (ho : w.ownsRow base e size v' n xs) (hat : v1.ownBlock = v.ownBlock ∨ v1.ownBlock = some B) (hB : w.heap.size ≤ B) : Apart v1 v' := by
  intro g h1 h2
  rcases hat with hat | hat
  · exact h g (hat ▸ h1) h2
  · rw [hat] at h1
    injection h1 with h1
    have := (ho.lt g h2).2
    omega

/-- 'x[k:]': the address behind it is not looked into; what lies there is known. -/
theorem wpList_slice_from {P : Program} {w : World} {ops : Array Oper} {rest : List Oper} {o : Oper} {a : Act} {Q : Exit → Act → World → Prop} (hgd : o.guard = none) (x lo : Operand) (t : TypeId)
    (ho : o.op = .slice t x (some lo) none none) (e : TypeId) (i : TypeInfo) (E : Nat) (hu : P.underlying t = some (.slice e)) (hi : P.info? e = some i) (hsz : i.size = E)
    (ao : Option Addr) (n cap k : Nat) (cs : List Value) (hx : a.eval x = .slice ao n cap) (hlo : a.eval lo = .int .i64 (k : Nat)) (hk : k ≤ n) (hn : n ≤ cap) (hrd : Rd w ao cs) (hcs : cs.length = n * E)
    (h : ∀ ao', Rd w ao' (cs.drop (k * E)) → wpList P ops Q rest (a.put o.dst (.slice ao' (n - k) (cap - k))) w) : wpList P ops Q (o :: rest) a w := by
  refine wpList_plain hgd fun K hK => ?_
  have h9 : Rd w (if cap = k then ao else ao.map (·.add (k * i.size))) (cs.drop (k * E)) := by
    rw [hsz]
    split
    · have : cs.drop (k * E) = [] := List.drop_eq_nil_of_le (by rw [hcs]; exact Nat.mul_le_mul_right _ (by omega))
      rw [this]; exact Rd.nil _ _
    · exact hrd.drop _
  have h8 := hK _ _ (h _ h9)
  have he : P.elem t = e := by simp [Program.elem, hu]
  have hu' : P.underlying t = some (.slice (P.elem t)) := by rw [he]; exact hu
  have hrun := run_slice_l (P := P) (w := w) t ao n cap hu' .i64 (k : Int) (by omega) (by omega)
  have hsz' : (sizeOf (P.elem t)).run P w = .ok i.size w := by simp [sizeOf, typeInfo, he, hi]
  simp only [hsz', Result.andThen, sliced, Int.toNat_natCast] at hrun
  have hrun2 : (Instr.sliceAt t (.slice ao n cap) (some (.int .i64 (k : Int))) none none).run P w = .ok (.slice (if cap = k then ao else ao.map (·.add (k * i.size))) (n - k) (cap - k)) w := by
    simp [Instr.sliceAt, run_underlying hu, hrun]
  unfold Oper.wp
  simp [execOp, ho, hx, hlo, hrun2, Result.andThen]
  exact h8

theorem owns_lit (w : World) (b base : Nat) (e : TypeId) (size : Nat) (cs : Array Value) (n : Nat) (hb : w.heap.size = b) (hB : base ≤ b) (hm : n ≤ 1000000) (hs : cs.size = n * size) :
    (w.alloc (.cells cs e)).ownsRow base e size (.slice (some ⟨b, 0, none⟩) n n) n cs.toList := by
  subst hb; exact World.ownsRow_lit w cs n hB (by unfold maxLen; omega) hs

end Go.Proofs.Ytckonmlcgfbojaa
