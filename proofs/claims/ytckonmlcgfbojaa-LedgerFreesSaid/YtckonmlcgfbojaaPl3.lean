/- Plain Lean: taking the first numbers; a row without a number. -/
import Derived.Test.YtckonmlcgfbojaaPl
namespace Go.Proofs.Ytckonmlcgfbojaa

/-- How many of the row's numbers are below k. -/
def cntR : List Rg → Int → Int
  | [], _ => 0
  | r :: l, k => max 0 (min r.2 k - r.1) + cntR l k

theorem cntR_nonneg (l : List Rg) (k : Int) : 0 ≤ cntR l k := by
  induction l with
  | nil => simp [cntR]
  | cons r l ih => simp only [cntR]; omega
theorem cntR_low (l : List Rg) (k : Int) (h : ∀ x ∈ l, k ≤ x.1) : cntR l k = 0 := by
  induction l with
  | nil => rfl
  | cons r l ih =>
    have := h r (by simp)
    simp only [cntR, ih (fun x hx => h x (by simp [hx]))]; omega
theorem cntR_zero {l : List Rg} (h : RowP l) : cntR l 0 = 0 := cntR_low l 0 (fun x hx => (h.1 x hx).1)

theorem cntR_step {l : List Rg} (h : RowP l) (k : Int) : cntR l (k + 1) = cntR l k + (if memR l k then 1 else 0) := by
  induction l with
  | nil => simp [cntR, memR]
  | cons r l ih =>
    obtain ⟨h1, h2, h3⟩ := (rowP_cons r l).1 h
    have hi := ih h3
    simp only [cntR]
    by_cases hr : r.1 ≤ k ∧ k < r.2
    · have hn : ¬ memR l k := fun hm => by have := h.ge hm; omega
      have hy : memR (r :: l) k := (memR_cons r l k).2 (.inl hr)
      rw [if_pos hy]
      rw [if_neg hn] at hi
      omega
    · by_cases hm : memR l k
      · have hy : memR (r :: l) k := (memR_cons r l k).2 (.inr hm)
        have := h.ge hm
        rw [if_pos hy]
        rw [if_pos hm] at hi
        omega
      · have hy : ¬ memR (r :: l) k := fun hh => by rcases (memR_cons r l k).1 hh with h' | h'; exact hr h'; exact hm h'
        rw [if_neg hy]
        rw [if_neg hm] at hi
        omega

theorem takeS_spec (l : List Rg) : ∀ n, 0 ≤ n → n ≤ lenR l → RowP l →
    RowP (takeS l n).1 ∧ RowP (takeS l n).2 ∧ lenR (takeS l n).1 = n ∧ lenR (takeS l n).2 = lenR l - n ∧
    (∀ k, memR (takeS l n).1 k ↔ memR l k ∧ cntR l k < n) ∧ (∀ k, memR (takeS l n).2 k ↔ memR l k ∧ n ≤ cntR l k) ∧
    (∀ m, (∀ x ∈ l, m < x.1) → (∀ x ∈ (takeS l n).1, m < x.1) ∧ (∀ x ∈ (takeS l n).2, m < x.1)) := by
  induction l with
  | nil =>
    intro n h0 h1 _
    simp only [lenR] at h1
    have : n = 0 := by omega
    subst this
    refine ⟨rowP_nil, rowP_nil, rfl, rfl, fun k => ?_, fun k => ?_, fun m _ => ?_⟩ <;> simp [takeS, memR]
  | cons r l ih =>
    intro n h0 h1 h
    obtain ⟨a1, a2, a3⟩ := (rowP_cons r l).1 h
    simp only [lenR] at h1
    unfold takeS
    by_cases hz : n ≤ 0
    · have : n = 0 := by omega
      subst this
      rw [if_pos (Int.le_refl _)]
      refine ⟨rowP_nil, h, rfl, by simp, fun k => ?_, fun k => ?_, fun m hm => ⟨by simp, hm⟩⟩
      · have := cntR_nonneg (r :: l) k
        constructor
        · intro hh; exact absurd hh (memR_nil _)
        · rintro ⟨_, hh⟩; omega
      · have := cntR_nonneg (r :: l) k
        exact ⟨fun hh => ⟨hh, this⟩, fun hh => hh.1⟩
    · rw [if_neg hz]
      by_cases hd : n < r.2 - r.1
      · rw [if_pos hd]
        have hB : RowP ((r.1 + n, r.2) :: l) := (rowP_cons _ _).2 ⟨by simp only; omega, a2, a3⟩
        refine ⟨(rowP_cons _ _).2 ⟨by simp only; omega, by simp, rowP_nil⟩, hB, by simp only [lenR]; omega, by simp only [lenR]; omega, fun k => ?_, fun k => ?_, fun m hm => ⟨fun x hx => ?_, fun x hx => ?_⟩⟩
        · simp only [memR_cons, cntR]
          constructor
          · rintro (hh | hh)
            · have e : cntR l k = 0 := cntR_low l k (fun x hx => by have := a2 x hx; omega)
              exact ⟨.inl (by omega), by omega⟩
            · exact absurd hh (memR_nil _)
          · rintro ⟨hh | hh, hc⟩
            · have e : cntR l k = 0 := cntR_low l k (fun x hx => by have := a2 x hx; omega)
              exact .inl (by omega)
            · have := h.ge hh
              have := cntR_nonneg l k
              omega
        · simp only [memR_cons, cntR]
          constructor
          · rintro (hh | hh)
            · have e : cntR l k = 0 := cntR_low l k (fun x hx => by have := a2 x hx; omega)
              exact ⟨.inl (by omega), by omega⟩
            · have := h.ge hh
              have := cntR_nonneg l k
              exact ⟨.inr hh, by omega⟩
          · rintro ⟨hh | hh, hc⟩
            · have e : cntR l k = 0 := cntR_low l k (fun x hx => by have := a2 x hx; omega)
              exact .inl (by omega)
            · exact .inr hh
        · simp at hx; subst hx; exact hm r (by simp)
        · simp only [List.mem_cons] at hx
          rcases hx with rfl | hx
          · have := hm r (by simp); simp only; omega
          · exact hm x (by simp [hx])
      · rw [if_neg hd]
        obtain ⟨i1, i2, i3, i4, i5, i6, i7⟩ := ih (n - (r.2 - r.1)) (by omega) (by omega) a3
        obtain ⟨j1, j2⟩ := i7 r.2 a2
        refine ⟨(rowP_cons _ _).2 ⟨a1, j1, i1⟩, i2, by simp only [lenR]; omega, by simp only [lenR]; omega, fun k => ?_, fun k => ?_, fun m hm => ⟨fun x hx => ?_, fun x hx => ?_⟩⟩
        · simp only [memR_cons, cntR, i5]
          constructor
          · rintro (hh | hh)
            · have e : cntR l k = 0 := cntR_low l k (fun x hx => by have := a2 x hx; omega)
              exact ⟨.inl hh, by omega⟩
            · have := h.ge hh.1
              exact ⟨.inr hh.1, by omega⟩
          · rintro ⟨hh | hh, hc⟩
            · exact .inl hh
            · have := h.ge hh
              exact .inr ⟨hh, by omega⟩
        · simp only [memR_cons, cntR, i6]
          constructor
          · rintro ⟨hh, hc⟩
            have := h.ge hh
            exact ⟨.inr hh, by omega⟩
          · rintro ⟨hh | hh, hc⟩
            · have e : cntR l k = 0 := cntR_low l k (fun x hx => by have := a2 x hx; omega)
              omega
            · have := h.ge hh
              exact ⟨hh, by omega⟩
        · simp only [List.mem_cons] at hx
          rcases hx with rfl | hx
          · exact hm r (by simp)
          · exact (i7 m (fun y hy => hm y (by simp [hy]))).1 x hx
        · exact (i7 m (fun y hy => hm y (by simp [hy]))).2 x hx

/-! ### without a number -/
theorem cutS_spec (n : Int) (r : Rg) (h : Ok r) : RowP (cutS n r) ∧ (∀ k, memR (cutS n r) k ↔ (r.1 ≤ k ∧ k < r.2) ∧ k ≠ n) ∧ (∀ x ∈ cutS n r, r.1 ≤ x.1 ∧ x.2 ≤ r.2) ∧
    lenR (cutS n r) = r.2 - r.1 - (if r.1 ≤ n ∧ n < r.2 then 1 else 0) := by
  unfold Ok at h
  unfold cutS
  by_cases hn : r.1 ≤ n ∧ n < r.2
  · rw [if_pos hn, if_pos hn]
    by_cases h1 : r.1 < n <;> by_cases h2 : n + 1 < r.2
    · rw [if_pos h1, if_pos h2]
      refine ⟨(rowP_cons _ _).2 ⟨by simp only; omega, by simp; omega, (rowP_cons _ _).2 ⟨by simp only; omega, by simp, rowP_nil⟩⟩, fun k => ?_, by simp; omega, by simp [lenR]; omega⟩
      simp [memR]; omega
    · rw [if_pos h1, if_neg h2]
      refine ⟨(rowP_cons _ _).2 ⟨by simp only; omega, by simp, rowP_nil⟩, fun k => ?_, by simp; omega, by simp [lenR]; omega⟩
      simp [memR]; omega
    · rw [if_neg h1, if_pos h2]
      refine ⟨(rowP_cons _ _).2 ⟨by simp only; omega, by simp, rowP_nil⟩, fun k => ?_, by simp; omega, by simp [lenR]; omega⟩
      simp [memR]; omega
    · rw [if_neg h1, if_neg h2]
      refine ⟨rowP_nil, fun k => ?_, by simp, by simp [lenR]; omega⟩
      simp [memR]; omega
  · rw [if_neg hn, if_neg hn]
    refine ⟨(rowP_cons _ _).2 ⟨h, by simp, rowP_nil⟩, fun k => ?_, by simp, by simp [lenR]⟩
    simp only [memR, List.mem_singleton, exists_eq_left]
    constructor
    · intro hk; exact ⟨hk, fun e => hn (by omega)⟩
    · exact fun hk => hk.1

theorem lessS_cons (r : Rg) (l : List Rg) (n : Int) : lessS (r :: l) n = cutS n r ++ lessS l n := by simp [lessS]

theorem rowP_append {a b : List Rg} (ha : RowP a) (hb : RowP b) (h : ∀ x ∈ a, ∀ y ∈ b, x.2 < y.1) : RowP (a ++ b) :=
  ⟨fun r hr => by rcases List.mem_append.1 hr with hr | hr; exact ha.1 r hr; exact hb.1 r hr, List.pairwise_append.2 ⟨ha.2, hb.2, h⟩⟩

theorem lessS_spec (l : List Rg) (n : Int) (h : RowP l) : RowP (lessS l n) ∧ (∀ k, memR (lessS l n) k ↔ memR l k ∧ k ≠ n) ∧ (∀ m, (∀ x ∈ l, m < x.1) → ∀ x ∈ lessS l n, m < x.1) ∧
    lenR (lessS l n) = lenR l - (if hasR l n then 1 else 0) := by
  induction l with
  | nil => exact ⟨rowP_nil, fun k => by simp [lessS, memR], fun m _ => by simp [lessS], by simp [lessS, lenR, hasR]⟩
  | cons r l ih =>
    obtain ⟨a1, a2, a3⟩ := (rowP_cons r l).1 h
    obtain ⟨i1, i2, i3, i4⟩ := ih a3
    obtain ⟨c1, c2, c3, c4⟩ := cutS_spec n r a1
    rw [lessS_cons]
    refine ⟨rowP_append c1 i1 (fun x hx y hy => ?_), fun k => ?_, fun m hm x hx => ?_, ?_⟩
    · have := (c3 x hx).2
      have := i3 r.2 a2 y hy
      omega
    · rw [memR_append, c2, i2, memR_cons]
      constructor
      · rintro (hh | hh)
        · exact ⟨.inl hh.1, hh.2⟩
        · exact ⟨.inr hh.1, hh.2⟩
      · rintro ⟨hh | hh, hk⟩
        · exact .inl ⟨hh, hk⟩
        · exact .inr ⟨hh, hk⟩
    · rcases List.mem_append.1 hx with hx | hx
      · have := (c3 x hx).1
        have := hm r (by simp)
        omega
      · exact i3 m (fun y hy => hm y (by simp [hy])) x hx
    · rw [lenR_append, c4, i4]
      simp only [lenR]
      by_cases hr : r.1 ≤ n ∧ n < r.2
      · have h2 : hasR l n = false := by
          rw [Bool.eq_false_iff]; intro hh
          have := h.ge ((hasR_iff l n).1 hh); omega
        have h1 : hasR (r :: l) n = true := (hasR_iff _ _).2 ((memR_cons r l n).2 (.inl hr))
        simp [hr, h1, h2]; omega
      · have h1 : hasR (r :: l) n = hasR l n := by
          rw [Bool.eq_iff_iff, hasR_iff, hasR_iff, memR_cons]
          exact ⟨fun hh => hh.resolve_left hr, .inr⟩
        simp [hr, h1]; omega

end Go.Proofs.Ytckonmlcgfbojaa
