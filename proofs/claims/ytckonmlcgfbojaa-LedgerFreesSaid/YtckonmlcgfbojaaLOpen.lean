/- How the arguments of the laws are opened: slices of counters, of wants. -/
import Derived.Test.YtckonmlcgfbojaaLLb
import Derived.ProofKit
import Derived.OpenShut
import Derived.ShutString
import Derived.ChangeOld
import Derived.Below
import Derived.Lib.SmallJoins
import Derived.Deep.Slices
import Derived.Deep.Fields
import Derived.ChangeSame
namespace Go.Proofs.Ytckonmlcgfbojaa
open Go.ChangeShapes Go.WideShapes Go.ChangeAt Go.RowKit Go.Deep

theorem Try.own : ownKnob Try.prog.godebug = none := by kernel_rfl
theorem Try.laidOut : laidOutB Try.prog = true := by kernel_rfl

theorem i64_of_wf {n : Int} (h : (Lit.int .i64 n).wf = true) : -9223372036854775808 ≤ n ∧ n ≤ 9223372036854775807 := bounds_i64 h

/-- A slice of structs of one-cell fields, opened: the cell of each field of each thing, and the field's own reading. -/
theorem open_fields {H : Type} {enc : TypeId × Value → H} {P : Program} {w : World} {base : Nat} {spare : Nat → Bool} {held : Bool} {t e : TypeId} {fs : Array Field} {fuel : Nat} {cs : List Value} {x : DataW H × List MemPlace} (ht : P.underlying t = some (.slice e)) (he : P.underlying e = some (.struct fs))
    (hone : oneCellFields P fs = true) (hC : P.cellsOf e = fs.size) (h : DataW.trod enc P w base spare held fuel t cs = some x) :
    cs = [.slice none 0 0] ∨
    ∃ (a : Addr) (len cap : Nat), cs = [.slice (some a) len cap] ∧ len ≤ cap ∧ cap ≤ maxLen ∧
      ∀ i, i < len → ∃ n : Nat, ∀ (j : Nat) (f : Field), fs[j]? = some f → ∃ (v : Value) (y : DataW H × List MemPlace), w.cell? (a.add (i * fs.size + j)) = some v ∧ DataW.trod enc P w base spare held n f.type [v] = some y := by
  rcases open_slice ht h with h0 | ⟨a, len, cap, m, n, D, Pl, hcs, hb, hl, hm, hmm, hx, hi⟩
  · exact .inl h0.1
  · refine .inr ⟨a, len, cap, hcs, hl, hm, fun i hil => ?_⟩
    have him : i < m := by rw [hmm]; split <;> omega
    obtain ⟨cs', hc, ht'⟩ := hi i him
    rw [hC] at hc
    obtain ⟨ys, n', hn', hy, hlen, hyl, hf⟩ := DataW.trod_struct he ht'
    obtain ⟨_, hcl, hat⟩ := World.cells?_some hc
    refine ⟨n', fun j f hj => ?_⟩
    obtain ⟨ho, hk⟩ := hone_of hone j f hj
    have hjl : j < fs.size := (Array.getElem?_eq_some_iff.1 hj).1
    have hcell := hat j hjl
    have hv : cs'[j]? = some (cs'[j]'(by omega)) := List.getElem?_eq_getElem (by omega)
    have h1 := hf j f hj
    rw [ho, hk] at h1
    have hone' : (cs'.drop j).take 1 = [cs'[j]'(by omega)] := by
      rw [List.drop_eq_getElem_cons (by omega)]
      rfl
    rw [hone'] at h1
    have hys : ys[j]? = some (ys[j]'(by omega)) := List.getElem?_eq_getElem (by omega)
    refine ⟨_, _, ?_, h1.trans hys⟩
    rw [← Go.Deep.add_add, hcell, hv]

/-- Things that lie one behind the other read as a list. -/
theorem slT_of_cells {α : Type} {f : α → List Value} {E : Nat} (hE : ∀ x, (f x).length = E) (hp : 0 < E) {w : World} {a : Addr} {len cap : Nat} (hl : len ≤ cap) (hm : cap ≤ maxLen) {Q : α → Prop}
    (h : ∀ i, i < len → ∃ y : α, Q y ∧ ∀ j u, (f y)[j]? = some u → w.cell? (a.add (i * E + j)) = some u) : ∃ l : List α, SlT f E w (.slice (some a) len cap) l ∧ ∀ y ∈ l, Q y := by
  have h' : ∀ i : Fin len, ∃ y : α, Q y ∧ ∀ j u, (f y)[j]? = some u → w.cell? (a.add (i.1 * E + j)) = some u := fun i => h i.1 i.2
  let g : Fin len → α := fun i => Classical.choose (h' i)
  have hg : ∀ i, Q (g i) ∧ ∀ j u, (f (g i))[j]? = some u → w.cell? (a.add (i.1 * E + j)) = some u := fun i => Classical.choose_spec (h' i)
  refine ⟨List.ofFn g, ?_, fun y hy => ?_⟩
  · have hlen : (List.ofFn g).length = len := List.length_ofFn
    have hcl : (cellsT f (List.ofFn g)).length = len * E := by rw [cellsT_len hE, hlen]
    unfold SlT
    rw [hlen]
    refine ⟨hcl, some a, cap, rfl, hl, hm, (fun h => by cases h), fun j u hu => ?_⟩
    have hj : j < len * E := by rw [← hcl]; exact (List.getElem?_eq_some_iff.1 hu).1
    have hlp : 0 < len := Nat.pos_of_ne_zero (fun e => by subst e; simp at hj)
    have hq : j / E < len := (Nat.div_lt_iff_lt_mul hp).2 hj
    have hr : j % E < E := Nat.mod_lt _ hp
    have hjq : j / E * E + j % E = j := Nat.div_add_mod' j E
    have hu2 : (f (g ⟨j / E, hq⟩))[j % E]? = some u := by
      have := cellsT_at hE (List.ofFn g) (j / E) (by rw [hlen]; exact hq) (j % E) hr
      rw [hjq, hu] at this
      rw [List.getElem_ofFn] at this
      exact this.symm
    have hc := (hg ⟨j / E, hq⟩).2 _ _ hu2
    simp only [hjq] at hc
    have h00 := (hg ⟨0, hlp⟩).2 0 ((f (g ⟨0, hlp⟩))[0]'(by rw [hE]; exact hp)) (List.getElem?_eq_getElem _)
    simp only [Nat.zero_mul, Nat.zero_add] at h00
    have hspot : a.spot = none := by
      cases hs : a.spot with
      | none => rfl
      | some q =>
        exfalso
        simp only [Addr.add, if_true, World.cell?] at h00
        split at h00
        · simp [hs] at h00
        · cases h00
    obtain ⟨b, off, spot⟩ := a
    simp only at hspot; subst hspot
    rw [Addr.add_lit] at hc
    exact ⟨b, off, rfl, World.block_lt_of_cell? w _ hc, hc⟩
  · obtain ⟨i, hi⟩ := (List.mem_ofFn).1 hy
    rw [← hi]; exact (hg i).1

section
variable {H : Type} {enc : TypeId × Value → H} {w : World} {base : Nat} {spare : Nat → Bool} {held : Bool} {fuel : Nat} {x : DataW H × List MemPlace}
theorem open_cts {a : Option Addr} {len cap : Nat} (h : DataW.trod enc Try.prog w base spare held fuel 22 (Value.slice a len cap).cells.toList = some x) : ∃ l, SlCt w (.slice a len cap) l ∧ ∀ c ∈ l, CtI c := by
  have h' : DataW.trod enc Try.prog w base spare held fuel 22 [.slice a len cap] = some x := by simpa [Value.cells] using h
  rcases open_fields Try.underlying22 Try.underlying25 (by kernel_rfl) (by kernel_rfl) h' with hcs | ⟨b, l, c, hcs, hl, hm, hi⟩
  · simp at hcs
    obtain ⟨rfl, rfl, rfl⟩ := hcs
    exact ⟨[], SlT.nil _ _ _, by simp⟩
  · simp at hcs
    obtain ⟨rfl, rfl, rfl⟩ := hcs
    refine slT_of_cells cCt_len (by omega) hl hm (fun i hil => ?_)
    obtain ⟨n, hf⟩ := hi i hil
    obtain ⟨v0, y0, k0, t0⟩ := hf 0 _ rfl
    obtain ⟨v1, y1, k1, t1⟩ := hf 1 _ rfl
    obtain ⟨v2, y2, k2, t2⟩ := hf 2 _ rfl
    obtain ⟨v3, y3, k3, t3⟩ := hf 3 _ rfl
    obtain ⟨v4, y4, k4, t4⟩ := hf 4 _ rfl
    obtain ⟨v5, y5, k5, t5⟩ := hf 5 _ rfl
    obtain ⟨v6, y6, k6, t6⟩ := hf 6 _ rfl
    obtain ⟨s, e0, _, z0⟩ := DataW.trod_string Try.underlying9 t0
    obtain ⟨n1, e1, _, z1⟩ := DataW.trod_int Try.underlying3 t1
    obtain ⟨n2, e2, _, z2⟩ := DataW.trod_int Try.underlying3 t2
    obtain ⟨n3, e3, _, z3⟩ := DataW.trod_int Try.underlying3 t3
    obtain ⟨n4, e4, _, z4⟩ := DataW.trod_int Try.underlying3 t4
    obtain ⟨n5, e5, _, z5⟩ := DataW.trod_int Try.underlying3 t5
    obtain ⟨n6, e6, _, z6⟩ := DataW.trod_int Try.underlying3 t6
    simp at e0 e1 e2 e3 e4 e5 e6
    subst e0 e1 e2 e3 e4 e5 e6
    refine ⟨⟨s, n1, n2, n3, n4, n5, n6⟩, ⟨z0, i64_of_wf z1, i64_of_wf z2, i64_of_wf z3, i64_of_wf z4⟩, fun j u hu => ?_⟩
    match j, hu with
    | 0, hu => cases hu; exact k0
    | 1, hu => cases hu; exact k1
    | 2, hu => cases hu; exact k2
    | 3, hu => cases hu; exact k3
    | 4, hu => cases hu; exact k4
    | 5, hu => cases hu; exact k5
    | 6, hu => cases hu; exact k6
    | j + 7, hu => cases hu
end

end Go.Proofs.Ytckonmlcgfbojaa
