/- Plain Lean: many ranges added. -/
import Derived.Test.YtckonmlcgfbojaaPl
namespace Go.Proofs.Ytckonmlcgfbojaa

instance (r : Rg) : Decidable (Ok r) := by unfold Ok; exact inferInstance
instance (l : List Rg) (n : Int) : Decidable (memR l n) := decidable_of_iff _ (hasR_iff l n)

def addAll (l : List Rg) (rs : List Rg) : List Rg := rs.foldl addS l

theorem addS_ok {l : List Rg} {r : Rg} (h : Ok r) : addS l r = addT l r := by
  unfold addS; unfold Ok at h; rw [if_neg (by omega)]

theorem addAll_snoc (l rs : List Rg) (r : Rg) : addAll l (rs ++ [r]) = addS (addAll l rs) r := by simp [addAll]

theorem addAll_spec (rs : List Rg) : ∀ l, RowP l → (∀ r ∈ rs, Ok r) → RowP (addAll l rs) ∧ (∀ n, memR (addAll l rs) n ↔ memR l n ∨ memR rs n) := by
  induction rs with
  | nil => intro l hl _; exact ⟨hl, fun n => by simp [addAll, memR]⟩
  | cons r rs ih =>
    intro l hl hr
    have h1 := hr r (by simp)
    have e : addAll l (r :: rs) = addAll (addT l r) rs := by simp only [addAll, List.foldl_cons, addS_ok h1]
    obtain ⟨i1, i2⟩ := ih (addT l r) (rowP_addT hl h1) (fun x hx => hr x (by simp [hx]))
    rw [e]
    refine ⟨i1, fun n => ?_⟩
    rw [i2, memR_addT hl h1, memR_cons]
    exact or_assoc

theorem rowP_addAll {l rs : List Rg} (hl : RowP l) (hr : ∀ r ∈ rs, Ok r) : RowP (addAll l rs) := (addAll_spec rs l hl hr).1
theorem memR_addAll {l rs : List Rg} (hl : RowP l) (hr : ∀ r ∈ rs, Ok r) (n : Int) : memR (addAll l rs) n ↔ memR l n ∨ memR rs n := (addAll_spec rs l hl hr).2 n
theorem RowP.ok {l : List Rg} (h : RowP l) : ∀ r ∈ l, Ok r := fun r hr => h.1 r hr

theorem memR_reverse (l : List Rg) (n : Int) : memR l.reverse n ↔ memR l n := by simp [memR]

theorem length_addS (l : List Rg) (r : Rg) : (addS l r).length ≤ l.length + 1 := by
  have hm : ∀ (l : List Rg) (r : Rg), (mergeS l r).length ≤ l.length + 1 := by
    intro l
    induction l with
    | nil => intro r; simp [mergeS]
    | cons x t ih =>
      intro r
      unfold mergeS
      split
      · have := ih (min r.1 x.1, max r.2 x.2); simp; omega
      · simp
  unfold addS
  split
  · omega
  · induction l with
    | nil => simp [addT]
    | cons x t ih =>
      unfold addT
      split
      · simp; omega
      · exact hm _ _
theorem length_addAll (rs l : List Rg) : (addAll l rs).length ≤ l.length + rs.length := by
  induction rs generalizing l with
  | nil => simp [addAll]
  | cons r rs ih =>
    have h1 := ih (addS l r)
    have h2 := length_addS l r
    simp only [addAll, List.foldl_cons, List.length_cons] at h1 ⊢
    omega

/-- In whatever order: one row. -/
theorem orders_xy {a b : List Rg} (ha : RowP a) (hb : RowP b) : addAll a b = addAll b a.reverse :=
  rowP_ext (rowP_addAll ha hb.ok) (rowP_addAll hb (fun r hr => ha.ok r (by simpa using hr))) (fun n => by
    rw [memR_addAll ha hb.ok, memR_addAll hb (fun r hr => ha.ok r (by simpa using hr)), memR_reverse]; exact Or.comm)
theorem orders_xz {a b : List Rg} (ha : RowP a) (hb : RowP b) : addAll a b = addAll (addAll a b) a :=
  rowP_ext (rowP_addAll ha hb.ok) (rowP_addAll (rowP_addAll ha hb.ok) ha.ok) (fun n => by
    rw [memR_addAll (rowP_addAll ha hb.ok) ha.ok, memR_addAll ha hb.ok]
    constructor
    · exact fun h => .inl h
    · rintro (h | h)
      · exact h
      · exact .inl h)

end Go.Proofs.Ytckonmlcgfbojaa
