/- Plain Lean: rows of ranges as sets of numbers. -/
import Derived.Test.YtckonmlcgfbojaaRp
import Derived.Test.YtckonmlcgfbojaaWkF
import Derived.Test.YtckonmlcgfbojaaWkG
import Derived.Test.YtckonmlcgfbojaaWkH
namespace Go.Proofs.Ytckonmlcgfbojaa

/-- n is one of the row's numbers. -/
def memR (l : List Rg) (n : Int) : Prop := ∃ r ∈ l, r.1 ≤ n ∧ n < r.2

theorem memR_nil (n : Int) : ¬ memR [] n := by simp [memR]
theorem memR_cons (r : Rg) (l : List Rg) (n : Int) : memR (r :: l) n ↔ (r.1 ≤ n ∧ n < r.2) ∨ memR l n := by simp [memR]
theorem memR_append (a b : List Rg) (n : Int) : memR (a ++ b) n ↔ memR a n ∨ memR b n := by
  simp only [memR, List.mem_append]
  constructor
  · rintro ⟨r, h | h, h2⟩
    · exact .inl ⟨r, h, h2⟩
    · exact .inr ⟨r, h, h2⟩
  · rintro (⟨r, h, h2⟩ | ⟨r, h, h2⟩)
    · exact ⟨r, .inl h, h2⟩
    · exact ⟨r, .inr h, h2⟩
theorem hasR_iff (l : List Rg) (n : Int) : hasR l n = true ↔ memR l n := by simp [hasR, memR]

theorem rowP_nil : RowP [] := ⟨by simp [Small], by simp⟩
theorem rowP_cons (r : Rg) (l : List Rg) : RowP (r :: l) ↔ (0 ≤ r.1 ∧ r.1 < r.2 ∧ r.2 ≤ 1073741824) ∧ (∀ x ∈ l, r.2 < x.1) ∧ RowP l := by
  unfold RowP Small
  simp only [List.mem_cons, forall_eq_or_imp, List.pairwise_cons]
  constructor
  · rintro ⟨⟨a, b⟩, c, d⟩; exact ⟨a, c, b, d⟩
  · rintro ⟨a, c, b, d⟩; exact ⟨⟨a, b⟩, c, d⟩

theorem RowP.ge {r : Rg} {l : List Rg} (h : RowP (r :: l)) {n : Int} (hm : memR l n) : r.2 < n := by
  obtain ⟨x, hx, h1, h2⟩ := hm
  have := ((rowP_cons r l).1 h).2.1 x hx
  omega

/-- A row is its numbers. -/
theorem rowP_ext {a b : List Rg} (ha : RowP a) (hb : RowP b) (h : ∀ n, memR a n ↔ memR b n) : a = b := by
  induction a generalizing b with
  | nil =>
    cases b with
    | nil => rfl
    | cons r b =>
      have h1 := ((rowP_cons r b).1 hb).1
      exact absurd ((h r.1).2 ((memR_cons r b r.1).2 (.inl ⟨by omega, by omega⟩))) (memR_nil _)
  | cons r a ih =>
    cases b with
    | nil =>
      have h1 := ((rowP_cons r a).1 ha).1
      exact absurd ((h r.1).1 ((memR_cons r a r.1).2 (.inl ⟨by omega, by omega⟩))) (memR_nil _)
    | cons s b =>
      have a1 := ((rowP_cons r a).1 ha).1
      have b1 := ((rowP_cons s b).1 hb).1
      -- both begin at the same number
      have e1 : r.1 = s.1 := by
        have h1 := (memR_cons s b r.1).1 ((h r.1).1 ((memR_cons r a r.1).2 (.inl ⟨by omega, by omega⟩)))
        have h2 := (memR_cons r a s.1).1 ((h s.1).2 ((memR_cons s b s.1).2 (.inl ⟨by omega, by omega⟩)))
        rcases h1 with h1 | h1
        · rcases h2 with h2 | h2
          · omega
          · have := ha.ge h2; omega
        · have := hb.ge h1
          rcases h2 with h2 | h2
          · omega
          · have := ha.ge h2; omega
      have e2 : r.2 = s.2 := by
        rcases Int.lt_trichotomy r.2 s.2 with hlt | heq | hgt
        · have h2 := (memR_cons r a r.2).1 ((h r.2).2 ((memR_cons s b r.2).2 (.inl ⟨by omega, by omega⟩)))
          rcases h2 with h2 | h2
          · omega
          · have := ha.ge h2; omega
        · exact heq
        · have h2 := (memR_cons s b s.2).1 ((h s.2).1 ((memR_cons r a s.2).2 (.inl ⟨by omega, by omega⟩)))
          rcases h2 with h2 | h2
          · omega
          · have := hb.ge h2; omega
      have e : r = s := Prod.ext e1 e2
      subst e
      congr 1
      refine ih ((rowP_cons r a).1 ha).2.2 ((rowP_cons r b).1 hb).2.2 (fun n => ?_)
      have hn := h n
      rw [memR_cons, memR_cons] at hn
      constructor
      · intro hm
        have := ha.ge hm
        rcases hn.1 (.inr hm) with h1 | h1
        · omega
        · exact h1
      · intro hm
        have := hb.ge hm
        rcases hn.2 (.inr hm) with h1 | h1
        · omega
        · exact h1

/-! ### adding -/
def Ok (r : Rg) : Prop := 0 ≤ r.1 ∧ r.1 < r.2 ∧ r.2 ≤ 1073741824

theorem mergeS_spec (l : List Rg) : ∀ (r : Rg), Ok r → RowP l → (∀ x ∈ l, r.1 ≤ x.2) →
    RowP (mergeS l r) ∧ (∀ n, memR (mergeS l r) n ↔ memR l n ∨ (r.1 ≤ n ∧ n < r.2)) ∧ (∀ m, m < r.1 → (∀ x ∈ l, m < x.1) → ∀ x ∈ mergeS l r, m < x.1) := by
  induction l with
  | nil =>
    intro r hr _ _
    refine ⟨(rowP_cons r []).2 ⟨hr, by simp, rowP_nil⟩, fun n => ?_, fun m hm _ x hx => ?_⟩
    · simp [mergeS, memR]
    · simp [mergeS] at hx; subst hx; exact hm
  | cons x t ih =>
    intro r hr hl hx
    have hx0 := hx x (by simp)
    obtain ⟨x1, x2, x3⟩ := (rowP_cons x t).1 hl
    unfold mergeS
    by_cases hc : x.1 ≤ r.2
    · rw [if_pos hc]
      obtain ⟨i1, i2, i3⟩ := ih (min r.1 x.1, max r.2 x.2) ⟨by unfold Ok at hr; simp only; omega, by unfold Ok at hr; simp only; omega, by unfold Ok at hr; simp only; omega⟩ x3 (fun y hy => by
        have h1 := x2 y hy
        have h2 := x3.1 y hy
        simp only; omega)
      refine ⟨i1, fun n => ?_, fun m hm hml y hy => ?_⟩
      · rw [i2, memR_cons]
        unfold Ok at hr
        simp only
        constructor
        · rintro (h | h)
          · exact .inl (.inr h)
          · by_cases hh : x.1 ≤ n ∧ n < x.2
            · exact .inl (.inl hh)
            · exact .inr (by omega)
        · rintro ((h | h) | h)
          · exact .inr (by omega)
          · exact .inl h
          · exact .inr (by omega)
      · exact i3 m (by have := hml x (by simp); simp only; omega) (fun z hz => hml z (by simp [hz])) y hy
    · rw [if_neg hc]
      refine ⟨(rowP_cons r _).2 ⟨hr, fun y hy => ?_, hl⟩, fun n => ?_, fun m hm hml y hy => ?_⟩
      · simp only [List.mem_cons] at hy
        rcases hy with rfl | hy
        · omega
        · have := x2 y hy; omega
      · rw [memR_cons]; exact Or.comm
      · simp only [List.mem_cons] at hy
        rcases hy with rfl | hy
        · exact hm
        · exact hml y (by simpa using hy)

theorem addT_spec (l : List Rg) (r : Rg) (hr : Ok r) (hl : RowP l) :
    RowP (addT l r) ∧ (∀ n, memR (addT l r) n ↔ memR l n ∨ (r.1 ≤ n ∧ n < r.2)) ∧ (∀ m, m < r.1 → (∀ x ∈ l, m < x.1) → ∀ x ∈ addT l r, m < x.1) := by
  induction l with
  | nil => exact mergeS_spec [] r hr hl (by simp)
  | cons x t ih =>
    obtain ⟨x1, x2, x3⟩ := (rowP_cons x t).1 hl
    unfold addT
    by_cases hc : x.2 < r.1
    · rw [if_pos hc]
      obtain ⟨i1, i2, i3⟩ := ih x3
      refine ⟨(rowP_cons x _).2 ⟨x1, i3 x.2 hc x2, i1⟩, fun n => ?_, fun m hm hml y hy => ?_⟩
      · rw [memR_cons, memR_cons, i2]; exact or_assoc.symm
      · simp only [List.mem_cons] at hy
        rcases hy with rfl | hy
        · exact hml y (by simp)
        · exact i3 m hm (fun z hz => hml z (by simp [hz])) y hy
    · rw [if_neg hc]
      refine mergeS_spec (x :: t) r hr hl (fun y hy => ?_)
      simp only [List.mem_cons] at hy
      rcases hy with rfl | hy
      · omega
      · have h1 := x2 y hy
        have h2 := x3.1 y hy
        omega

theorem rowP_addT {l : List Rg} {r : Rg} (hl : RowP l) (hr : Ok r) : RowP (addT l r) := (addT_spec l r hr hl).1
theorem memR_addT {l : List Rg} {r : Rg} (hl : RowP l) (hr : Ok r) (n : Int) : memR (addT l r) n ↔ memR l n ∨ (r.1 ≤ n ∧ n < r.2) := (addT_spec l r hr hl).2.1 n

theorem fold_behind (l : List Rg) (A B : List Rg) (r : Rg) (hr : r.1 < r.2) (h : ∀ x ∈ l, x.1 < x.2 ∧ r.2 < x.1) : l.foldl refStep (A, B, r) = (A, B ++ l, r) := by
  induction l generalizing B with
  | nil => simp
  | cons x t ih =>
    have hx := h x (by simp)
    have e : refStep (A, B, r) x = (A, B ++ [x], r) := by
      unfold refStep
      simp only
      rw [if_neg (by omega), if_pos hx.2]
    rw [List.foldl_cons, e, ih _ (fun y hy => h y (by simp [hy]))]
    simp

theorem fold_merge (l : List Rg) (A : List Rg) : ∀ r : Rg, r.1 < r.2 → RowP l → (∀ x ∈ l, r.1 ≤ x.2) →
    (l.foldl refStep (A, [], r)).1 ++ [(l.foldl refStep (A, [], r)).2.2] ++ (l.foldl refStep (A, [], r)).2.1 = A ++ mergeS l r := by
  induction l with
  | nil => intro r _ _ _; simp [mergeS]
  | cons x t ih =>
    intro r hr hl hx
    have hx0 := hx x (by simp)
    obtain ⟨x1, x2, x3⟩ := (rowP_cons x t).1 hl
    unfold mergeS
    by_cases hc : x.1 ≤ r.2
    · have e : refStep (A, [], r) x = (A, [], (min r.1 x.1, max r.2 x.2)) := by
        unfold refStep
        simp only
        rw [if_neg (by omega), if_neg (by omega)]
      rw [if_pos hc, List.foldl_cons, e]
      exact ih _ (by simp only; omega) x3 (fun y hy => by
        have h1 := x2 y hy
        have h2 := x3.1 y hy
        simp only; omega)
    · rw [if_neg hc, fold_behind (x :: t) A [] r hr (fun y hy => by
        simp only [List.mem_cons] at hy
        rcases hy with rfl | hy
        · omega
        · have h1 := x2 y hy
          have h2 := x3.1 y hy
          omega)]
      simp

theorem fold_add (l : List Rg) (r : Rg) (hr : r.1 < r.2) : ∀ A : List Rg, RowP l →
    (l.foldl refStep (A, [], r)).1 ++ [(l.foldl refStep (A, [], r)).2.2] ++ (l.foldl refStep (A, [], r)).2.1 = A ++ addT l r := by
  induction l with
  | nil => intro A _; simp [addT]
  | cons x t ih =>
    intro A hl
    obtain ⟨x1, x2, x3⟩ := (rowP_cons x t).1 hl
    unfold addT
    by_cases hc : x.2 < r.1
    · have e : refStep (A, [], r) x = (A ++ [x], [], r) := by
        unfold refStep
        simp only
        rw [if_pos hc]
      rw [if_pos hc, List.foldl_cons, e, ih _ x3]
      simp
    · rw [if_neg hc]
      refine fold_merge (x :: t) A r hr hl (fun y hy => ?_)
      simp only [List.mem_cons] at hy
      rcases hy with rfl | hy
      · omega
      · have h1 := x2 y hy
        have h2 := x3.1 y hy
        omega

theorem addR_eq {l : List Rg} {r : Rg} (hl : RowP l) (hr : r.1 < r.2) : addR l r = addT l r := by
  have := fold_add l r hr [] hl
  simpa [addR, refSt] using this

end Go.Proofs.Ytckonmlcgfbojaa
