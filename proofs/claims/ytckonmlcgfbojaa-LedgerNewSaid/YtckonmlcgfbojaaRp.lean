/- Plain Lean: rows. -/
import Derived.Test.YtckonmlcgfbojaaRg
namespace Go.Proofs.Ytckonmlcgfbojaa

/-- A row: in order, none touching another, within the bounds. -/
def RowP (l : List Rg) : Prop := Small l ∧ l.Pairwise (fun a b => a.2 < b.1)

instance (l : List Rg) : Decidable (RowP l) := by unfold RowP Small; exact inferInstance

theorem RowP.ahead {a b : List Rg} (h : RowP (a ++ b)) : RowP a := ⟨fun r hr => h.1 r (by simp [hr]), (List.pairwise_append.1 h.2).1⟩
theorem RowP.take {l : List Rg} (h : RowP l) (k : Nat) : RowP (l.take k) := RowP.ahead (b := l.drop k) (by rw [List.take_append_drop]; exact h)

theorem rowP_one (x y : Int) : RowP [(x, y)] ↔ 0 ≤ x ∧ x < y ∧ y ≤ 1073741824 := by
  constructor
  · intro h; exact h.1 (x, y) (by simp)
  · intro h; exact ⟨fun r hr => by simp at hr; subst hr; exact h, by simp⟩
theorem rowP_snoc (l : List Rg) (x0 y0 x y : Int) : RowP (l ++ [(x0, y0)] ++ [(x, y)]) ↔ RowP (l ++ [(x0, y0)]) ∧ 0 ≤ x ∧ x < y ∧ y ≤ 1073741824 ∧ y0 < x := by
  constructor
  · intro h
    have h1 := h.1 (x, y) (by simp)
    have h2 := (List.pairwise_append.1 h.2).2.2 (x0, y0) (by simp) (x, y) (by simp)
    exact ⟨h.ahead, h1.1, h1.2.1, h1.2.2, h2⟩
  · rintro ⟨h, h1, h2, h3, h4⟩
    refine ⟨fun r hr => ?_, List.pairwise_append.2 ⟨h.2, by simp, fun a ha b hb => ?_⟩⟩
    · rw [List.mem_append] at hr
      rcases hr with hr | hr
      · exact h.1 r hr
      · simp at hr; subst hr; exact ⟨h1, h2, h3⟩
    · simp at hb; subst hb
      rw [List.mem_append] at ha
      rcases ha with ha | ha
      · have h5 := (List.pairwise_append.1 h.2).2.2 a ha (x0, y0) (by simp)
        have h6 := h.1 (x0, y0) (by simp)
        simp only at h5 h6 ⊢; omega
      · simp at ha; subst ha; exact h4

end Go.Proofs.Ytckonmlcgfbojaa
