/- How slices of wants are opened. -/
import Derived.Test.YtckonmlcgfbojaaLOpen
namespace Go.Proofs.Ytckonmlcgfbojaa
open Go.ChangeShapes Go.WideShapes Go.ChangeAt Go.RowKit Go.Deep

/-- Numbers that 64 bits hold. -/
def WnI (c : Wn) : Prop := c.key.size ≤ maxLen ∧ (-9223372036854775808 ≤ c.up ∧ c.up ≤ 9223372036854775807) ∧ (-9223372036854775808 ≤ c.down ∧ c.down ≤ 9223372036854775807) ∧ (-9223372036854775808 ≤ c.ids ∧ c.ids ≤ 9223372036854775807)

theorem open_wns {H : Type} {enc : TypeId × Value → H} {w : World} {base : Nat} {spare : Nat → Bool} {held : Bool} {fuel : Nat} {x : DataW H × List MemPlace} {a : Option Addr} {len cap : Nat}
    (h : DataW.trod enc Try.prog w base spare held fuel 40 (Value.slice a len cap).cells.toList = some x) : ∃ l, SlWn w (.slice a len cap) l ∧ ∀ c ∈ l, WnI c := by
  have h' : DataW.trod enc Try.prog w base spare held fuel 40 [.slice a len cap] = some x := by simpa [Value.cells] using h
  rcases open_fields Try.underlying40 Try.underlying49 (by kernel_rfl) (by kernel_rfl) h' with hcs | ⟨b, l, c, hcs, hl, hm, hi⟩
  · simp at hcs
    obtain ⟨rfl, rfl, rfl⟩ := hcs
    exact ⟨[], SlT.nil _ _ _, by simp⟩
  · simp at hcs
    obtain ⟨rfl, rfl, rfl⟩ := hcs
    refine slT_of_cells cWn_len (by omega) hl hm (fun i hil => ?_)
    obtain ⟨n, hf⟩ := hi i hil
    obtain ⟨v0, y0, k0, t0⟩ := hf 0 _ rfl
    obtain ⟨v1, y1, k1, t1⟩ := hf 1 _ rfl
    obtain ⟨v2, y2, k2, t2⟩ := hf 2 _ rfl
    obtain ⟨v3, y3, k3, t3⟩ := hf 3 _ rfl
    obtain ⟨s, e0, _, z0⟩ := DataW.trod_string Try.underlying9 t0
    obtain ⟨n1, e1, _, z1⟩ := DataW.trod_int Try.underlying3 t1
    obtain ⟨n2, e2, _, z2⟩ := DataW.trod_int Try.underlying3 t2
    obtain ⟨n3, e3, _, z3⟩ := DataW.trod_int Try.underlying3 t3
    simp at e0 e1 e2 e3
    subst e0 e1 e2 e3
    refine ⟨⟨s, n1, n2, n3⟩, ⟨z0, i64_of_wf z1, i64_of_wf z2, i64_of_wf z3⟩, fun j u hu => ?_⟩
    match j, hu with
    | 0, hu => cases hu; exact k0
    | 1, hu => cases hu; exact k1
    | 2, hu => cases hu; exact k2
    | 3, hu => cases hu; exact k3
    | j + 4, hu => cases hu

end Go.Proofs.Ytckonmlcgfbojaa
