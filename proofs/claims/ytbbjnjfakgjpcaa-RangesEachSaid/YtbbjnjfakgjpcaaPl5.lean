/- Plain Lean: one number at a time. -/
import Derived.Test.YtbbjnjfakgjpcaaPl4
namespace Go.Proofs.Ytbbjnjfakgjpcaa

theorem lessS_absent (l : List Rg) (n : Int) (h : hasR l n = false) : lessS l n = l := by
  induction l with
  | nil => rfl
  | cons r l ih =>
    have h2 : ¬ (r.1 ≤ n ∧ n < r.2) := fun hh => by
      have : hasR (r :: l) n = true := (hasR_iff _ _).2 ((memR_cons r l n).2 (.inl hh))
      rw [h] at this; cases this
    have h3 : hasR l n = false := by
      rw [Bool.eq_false_iff]; intro hh
      have : hasR (r :: l) n = true := (hasR_iff _ _).2 ((memR_cons r l n).2 (.inr ((hasR_iff _ _).1 hh)))
      rw [h] at this; cases this
    rw [lessS_cons, ih h3, cutS, if_neg h2]; rfl

theorem take_one (r : Rg) (l : List Rg) (h : RowP (r :: l)) : takeS (r :: l) 1 = ([(r.1, r.1 + 1)], lessS (r :: l) r.1) := by
  obtain ⟨a1, a2, a3⟩ := (rowP_cons r l).1 h
  have hn : hasR l r.1 = false := by
    rw [Bool.eq_false_iff]; intro hh
    have := h.ge ((hasR_iff _ _).1 hh); omega
  rw [lessS_cons, lessS_absent l _ hn]
  unfold takeS cutS
  rw [if_neg (by omega), if_pos (show r.1 ≤ r.1 ∧ r.1 < r.2 from ⟨Int.le_refl _, a1.2.1⟩), if_neg (show ¬ r.1 < r.1 by omega)]
  by_cases hd : 1 < r.2 - r.1
  · rw [if_pos hd, if_pos (by omega)]; rfl
  · have e : r.2 = r.1 + 1 := by omega
    rw [if_neg hd, if_neg (by omega), e]
    have e2 : (1 : Int) - (r.1 + 1 - r.1) = 0 := by omega
    rw [e2, takeS_zero l 0 (Int.le_refl _)]
    rfl

theorem has_first (r : Rg) (l : List Rg) (h : RowP (r :: l)) : hasR (r :: l) r.1 = true :=
  (hasR_iff _ _).2 ((memR_cons r l r.1).2 (.inl ⟨Int.le_refl _, ((rowP_cons r l).1 h).1.2.1⟩))

theorem len_rest (r : Rg) (l : List Rg) (h : RowP (r :: l)) : lenR (lessS (r :: l) r.1) = lenR (r :: l) - 1 := by
  have := (lessS_spec (r :: l) r.1 h).2.2.2
  rw [has_first r l h] at this
  simpa using this

theorem rest_gt (r : Rg) (l : List Rg) (h : RowP (r :: l)) (x : Int) (hx : memR (lessS (r :: l) r.1) x) : r.1 < x := by
  rw [(lessS_spec (r :: l) r.1 h).2.1] at hx
  obtain ⟨hx, hne⟩ := hx
  rcases (memR_cons r l x).1 hx with hh | hh
  · omega
  · have := h.ge hh; have := ((rowP_cons r l).1 h).1; omega

theorem rowP_len_zero {l : List Rg} (h : RowP l) (h0 : lenR l ≤ 0) : l = [] := by
  cases l with
  | nil => rfl
  | cons r l =>
    obtain ⟨a1, a2, a3⟩ := (rowP_cons r l).1 h
    have := (lenR_bounds l a3.1).1
    simp only [lenR] at h0
    omega

end Go.Proofs.Ytbbjnjfakgjpcaa
