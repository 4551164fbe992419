/- Plain Lean: rows of ranges as sets of numbers. Plain Lean: many ranges added. The walk of Add where nothing is added; of Add. -/
import Derived.Test.YtckonmlcgfbojaaLib
import Derived.Test.YtckonmlcgfbojaaWkF
import Derived.Test.YtckonmlcgfbojaaWkG
import Derived.Test.YtckonmlcgfbojaaWkH
import Derived.Test.YtckonmlcgfbojaaWkC

namespace Go.Proofs.Ytckonmlcgfbojaa

/-- n is one of the row's numbers. -/
def memR (l : List Rg) (n : Int) : Prop := ∃ r ∈ l, r.1 ≤ n ∧ n < r.2

theorem memR_nil (n : Int) : ¬ memR [] n := by simp [memR]
theorem memR_cons (r : Rg) (l : List Rg) (n : Int) : memR (r :: l) n ↔ (r.1 ≤ n ∧ n < r.2) ∨ memR l n := by simp [memR]
theorem memR_append (a b : List Rg) (n : Int) : memR (a ++ b) n ↔ memR a n ∨ memR b n := by
  simp only [memR, List.mem_append]
  constructor
  · rintro ⟨r, h | h, h2⟩
    · exact .inl ⟨r, h, h2⟩
    · exact .inr ⟨r, h, h2⟩
  · rintro (⟨r, h, h2⟩ | ⟨r, h, h2⟩)
    · exact ⟨r, .inl h, h2⟩
    · exact ⟨r, .inr h, h2⟩
theorem hasR_iff (l : List Rg) (n : Int) : hasR l n = true ↔ memR l n := by simp [hasR, memR]

theorem rowP_nil : RowP [] := ⟨by simp [Small], by simp⟩
theorem rowP_cons (r : Rg) (l : List Rg) : RowP (r :: l) ↔ (0 ≤ r.1 ∧ r.1 < r.2 ∧ r.2 ≤ 1073741824) ∧ (∀ x ∈ l, r.2 < x.1) ∧ RowP l := by
  unfold RowP Small
  simp only [List.mem_cons, forall_eq_or_imp, List.pairwise_cons]
  constructor
  · rintro ⟨⟨a, b⟩, c, d⟩; exact ⟨a, c, b, d⟩
  · rintro ⟨a, c, b, d⟩; exact ⟨⟨a, b⟩, c, d⟩

theorem RowP.ge {r : Rg} {l : List Rg} (h : RowP (r :: l)) {n : Int} (hm : memR l n) : r.2 < n := by
  obtain ⟨x, hx, h1, h2⟩ := hm
  have := ((rowP_cons r l).1 h).2.1 x hx
  omega

/-- A row is its numbers. -/
theorem rowP_ext {a b : List Rg} (ha : RowP a) (hb : RowP b) (h : ∀ n, memR a n ↔ memR b n) : a = b := by
  induction a generalizing b with
  | nil =>
    cases b with
    | nil => rfl
    | cons r b =>
      have h1 := ((rowP_cons r b).1 hb).1
      exact absurd ((h r.1).2 ((memR_cons r b r.1).2 (.inl ⟨by omega, by omega⟩))) (memR_nil _)
  | cons r a ih =>
    cases b with
    | nil =>
      have h1 := ((rowP_cons r a).1 ha).1
      exact absurd ((h r.1).1 ((memR_cons r a r.1).2 (.inl ⟨by omega, by omega⟩))) (memR_nil _)
    | cons s b =>
      have a1 := ((rowP_cons r a).1 ha).1
      have b1 := ((rowP_cons s b).1 hb).1
      -- both begin at the same number
      have e1 : r.1 = s.1 := by
        have h1 := (memR_cons s b r.1).1 ((h r.1).1 ((memR_cons r a r.1).2 (.inl ⟨by omega, by omega⟩)))
        have h2 := (memR_cons r a s.1).1 ((h s.1).2 ((memR_cons s b s.1).2 (.inl ⟨by omega, by omega⟩)))
        rcases h1 with h1 | h1
        · rcases h2 with h2 | h2
          · omega
          · have := ha.ge h2; omega
        · have := hb.ge h1
          rcases h2 with h2 | h2
          · omega
          · have := ha.ge h2; omega
      have e2 : r.2 = s.2 := by
        rcases Int.lt_trichotomy r.2 s.2 with hlt | heq | hgt
        · have h2 := (memR_cons r a r.2).1 ((h r.2).2 ((memR_cons s b r.2).2 (.inl ⟨by omega, by omega⟩)))
          rcases h2 with h2 | h2
          · omega
          · have := ha.ge h2; omega
        · exact heq
        · have h2 := (memR_cons s b s.2).1 ((h s.2).1 ((memR_cons r a s.2).2 (.inl ⟨by omega, by omega⟩)))
          rcases h2 with h2 | h2
          · omega
          · have := hb.ge h2; omega
      have e : r = s := Prod.ext e1 e2
      subst e
      congr 1
      refine ih ((rowP_cons r a).1 ha).2.2 ((rowP_cons r b).1 hb).2.2 (fun n => ?_)
      have hn := h n
      rw [memR_cons, memR_cons] at hn
      constructor
      · intro hm
        have := ha.ge hm
        rcases hn.1 (.inr hm) with h1 | h1
        · omega
        · exact h1
      · intro hm
        have := hb.ge hm
        rcases hn.2 (.inr hm) with h1 | h1
        · omega
        · exact h1

/-! ### adding -/
def Ok (r : Rg) : Prop := 0 ≤ r.1 ∧ r.1 < r.2 ∧ r.2 ≤ 1073741824

theorem mergeS_spec (l : List Rg) : ∀ (r : Rg), Ok r → RowP l → (∀ x ∈ l, r.1 ≤ x.2) →
    RowP (mergeS l r) ∧ (∀ n, memR (mergeS l r) n ↔ memR l n ∨ (r.1 ≤ n ∧ n < r.2)) ∧ (∀ m, m < r.1 → (∀ x ∈ l, m < x.1) → ∀ x ∈ mergeS l r, m < x.1) := by
  induction l with
  | nil =>
    intro r hr _ _
    refine ⟨(rowP_cons r []).2 ⟨hr, by simp, rowP_nil⟩, fun n => ?_, fun m hm _ x hx => ?_⟩
    · simp [mergeS, memR]
    · simp [mergeS] at hx; subst hx; exact hm
  | cons x t ih =>
    intro r hr hl hx
    have hx0 := hx x (by simp)
    obtain ⟨x1, x2, x3⟩ := (rowP_cons x t).1 hl
    unfold mergeS
    by_cases hc : x.1 ≤ r.2
    · rw [if_pos hc]
      obtain ⟨i1, i2, i3⟩ := ih (min r.1 x.1, max r.2 x.2) ⟨by unfold Ok at hr; simp only; omega, by unfold Ok at hr; simp only; omega, by unfold Ok at hr; simp only; omega⟩ x3 (fun y hy => by
        have h1 := x2 y hy
        have h2 := x3.1 y hy
        simp only; omega)
      refine ⟨i1, fun n => ?_, fun m hm hml y hy => ?_⟩
      · rw [i2, memR_cons]
        unfold Ok at hr
        simp only
        constructor
        · rintro (h | h)
          · exact .inl (.inr h)
          · by_cases hh : x.1 ≤ n ∧ n < x.2
            · exact .inl (.inl hh)
            · exact .inr (by omega)
        · rintro ((h | h) | h)
          · exact .inr (by omega)
          · exact .inl h
          · exact .inr (by omega)
      · exact i3 m (by have := hml x (by simp); simp only; omega) (fun z hz => hml z (by simp [hz])) y hy
    · rw [if_neg hc]
      refine ⟨(rowP_cons r _).2 ⟨hr, fun y hy => ?_, hl⟩, fun n => ?_, fun m hm hml y hy => ?_⟩
      · simp only [List.mem_cons] at hy
        rcases hy with rfl | hy
        · omega
        · have := x2 y hy; omega
      · rw [memR_cons]; exact Or.comm
      · simp only [List.mem_cons] at hy
        rcases hy with rfl | hy
        · exact hm
        · exact hml y (by simpa using hy)

theorem addT_spec (l : List Rg) (r : Rg) (hr : Ok r) (hl : RowP l) :
    RowP (addT l r) ∧ (∀ n, memR (addT l r) n ↔ memR l n ∨ (r.1 ≤ n ∧ n < r.2)) ∧ (∀ m, m < r.1 → (∀ x ∈ l, m < x.1) → ∀ x ∈ addT l r, m < x.1) := by
  induction l with
  | nil => exact mergeS_spec [] r hr hl (by simp)
  | cons x t ih =>
    obtain ⟨x1, x2, x3⟩ := (rowP_cons x t).1 hl
    unfold addT
    by_cases hc : x.2 < r.1
    · rw [if_pos hc]
      obtain ⟨i1, i2, i3⟩ := ih x3
      refine ⟨(rowP_cons x _).2 ⟨x1, i3 x.2 hc x2, i1⟩, fun n => ?_, fun m hm hml y hy => ?_⟩
      · rw [memR_cons, memR_cons, i2]; exact or_assoc.symm
      · simp only [List.mem_cons] at hy
        rcases hy with rfl | hy
        · exact hml y (by simp)
        · exact i3 m hm (fun z hz => hml z (by simp [hz])) y hy
    · rw [if_neg hc]
      refine mergeS_spec (x :: t) r hr hl (fun y hy => ?_)
      simp only [List.mem_cons] at hy
      rcases hy with rfl | hy
      · omega
      · have h1 := x2 y hy
        have h2 := x3.1 y hy
        omega

theorem rowP_addT {l : List Rg} {r : Rg} (hl : RowP l) (hr : Ok r) : RowP (addT l r) := (addT_spec l r hr hl).1
theorem memR_addT {l : List Rg} {r : Rg} (hl : RowP l) (hr : Ok r) (n : Int) : memR (addT l r) n ↔ memR l n ∨ (r.1 ≤ n ∧ n < r.2) := (addT_spec l r hr hl).2.1 n

theorem fold_behind (l : List Rg) (A B : List Rg) (r : Rg) (hr : r.1 < r.2) (h : ∀ x ∈ l, x.1 < x.2 ∧ r.2 < x.1) : l.foldl refStep (A, B, r) = (A, B ++ l, r) := by
  induction l generalizing B with
  | nil => simp
  | cons x t ih =>
    have hx := h x (by simp)
    have e : refStep (A, B, r) x = (A, B ++ [x], r) := by
      unfold refStep
      simp only
      rw [if_neg (by omega), if_pos hx.2]
    rw [List.foldl_cons, e, ih _ (fun y hy => h y (by simp [hy]))]
    simp

theorem fold_merge (l : List Rg) (A : List Rg) : ∀ r : Rg, r.1 < r.2 → RowP l → (∀ x ∈ l, r.1 ≤ x.2) →
    (l.foldl refStep (A, [], r)).1 ++ [(l.foldl refStep (A, [], r)).2.2] ++ (l.foldl refStep (A, [], r)).2.1 = A ++ mergeS l r := by
  induction l with
  | nil => intro r _ _ _; simp [mergeS]
  | cons x t ih =>
    intro r hr hl hx
    have hx0 := hx x (by simp)
    obtain ⟨x1, x2, x3⟩ := (rowP_cons x t).1 hl
    unfold mergeS
    by_cases hc : x.1 ≤ r.2
    · have e : refStep (A, [], r) x = (A, [], (min r.1 x.1, max r.2 x.2)) := by
        unfold refStep
        simp only
        rw [if_neg (by omega), if_neg (by omega)]
      rw [if_pos hc, List.foldl_cons, e]
      exact ih _ (by simp only; omega) x3 (fun y hy => by
        have h1 := x2 y hy
        have h2 := x3.1 y hy
        simp only; omega)
    · rw [if_neg hc, fold_behind (x :: t) A [] r hr (fun y hy => by
        simp only [List.mem_cons] at hy
        rcases hy with rfl | hy
        · omega
        · have h1 := x2 y hy
          have h2 := x3.1 y hy
          omega)]
      simp

theorem fold_add (l : List Rg) (r : Rg) (hr : r.1 < r.2) : ∀ A : List Rg, RowP l →
    (l.foldl refStep (A, [], r)).1 ++ [(l.foldl refStep (A, [], r)).2.2] ++ (l.foldl refStep (A, [], r)).2.1 = A ++ addT l r := by
  induction l with
  | nil => intro A _; simp [addT]
  | cons x t ih =>
    intro A hl
    obtain ⟨x1, x2, x3⟩ := (rowP_cons x t).1 hl
    unfold addT
    by_cases hc : x.2 < r.1
    · have e : refStep (A, [], r) x = (A ++ [x], [], r) := by
        unfold refStep
        simp only
        rw [if_pos hc]
      rw [if_pos hc, List.foldl_cons, e, ih _ x3]
      simp
    · rw [if_neg hc]
      refine fold_merge (x :: t) A r hr hl (fun y hy => ?_)
      simp only [List.mem_cons] at hy
      rcases hy with rfl | hy
      · omega
      · have h1 := x2 y hy
        have h2 := x3.1 y hy
        omega

theorem addR_eq {l : List Rg} {r : Rg} (hl : RowP l) (hr : r.1 < r.2) : addR l r = addT l r := by
  have := fold_add l r hr [] hl
  simpa [addR, refSt] using this

end Go.Proofs.Ytckonmlcgfbojaa

namespace Go.Proofs.Ytckonmlcgfbojaa

instance (r : Rg) : Decidable (Ok r) := by unfold Ok; exact inferInstance
instance (l : List Rg) (n : Int) : Decidable (memR l n) := decidable_of_iff _ (hasR_iff l n)

def addAll (l : List Rg) (rs : List Rg) : List Rg := rs.foldl addS l

theorem addS_ok {l : List Rg} {r : Rg} (h : Ok r) : addS l r = addT l r := by
  unfold addS; unfold Ok at h; rw [if_neg (by omega)]

theorem addAll_snoc (l rs : List Rg) (r : Rg) : addAll l (rs ++ [r]) = addS (addAll l rs) r := by simp [addAll]

theorem addAll_spec (rs : List Rg) : ∀ l, RowP l → (∀ r ∈ rs, Ok r) → RowP (addAll l rs) ∧ (∀ n, memR (addAll l rs) n ↔ memR l n ∨ memR rs n) := by
  induction rs with
  | nil => intro l hl _; exact ⟨hl, fun n => by simp [addAll, memR]⟩
  | cons r rs ih =>
    intro l hl hr
    have h1 := hr r (by simp)
    have e : addAll l (r :: rs) = addAll (addT l r) rs := by simp only [addAll, List.foldl_cons, addS_ok h1]
    obtain ⟨i1, i2⟩ := ih (addT l r) (rowP_addT hl h1) (fun x hx => hr x (by simp [hx]))
    rw [e]
    refine ⟨i1, fun n => ?_⟩
    rw [i2, memR_addT hl h1, memR_cons]
    exact or_assoc

theorem rowP_addAll {l rs : List Rg} (hl : RowP l) (hr : ∀ r ∈ rs, Ok r) : RowP (addAll l rs) := (addAll_spec rs l hl hr).1
theorem memR_addAll {l rs : List Rg} (hl : RowP l) (hr : ∀ r ∈ rs, Ok r) (n : Int) : memR (addAll l rs) n ↔ memR l n ∨ memR rs n := (addAll_spec rs l hl hr).2 n
theorem RowP.ok {l : List Rg} (h : RowP l) : ∀ r ∈ l, Ok r := fun r hr => h.1 r hr

theorem memR_reverse (l : List Rg) (n : Int) : memR l.reverse n ↔ memR l n := by simp [memR]

theorem length_addS (l : List Rg) (r : Rg) : (addS l r).length ≤ l.length + 1 := by
  have hm : ∀ (l : List Rg) (r : Rg), (mergeS l r).length ≤ l.length + 1 := by
    intro l
    induction l with
    | nil => intro r; simp [mergeS]
    | cons x t ih =>
      intro r
      unfold mergeS
      split
      · have := ih (min r.1 x.1, max r.2 x.2); simp; omega
      · simp
  unfold addS
  split
  · omega
  · induction l with
    | nil => simp [addT]
    | cons x t ih =>
      unfold addT
      split
      · simp; omega
      · exact hm _ _
theorem length_addAll (rs l : List Rg) : (addAll l rs).length ≤ l.length + rs.length := by
  induction rs generalizing l with
  | nil => simp [addAll]
  | cons r rs ih =>
    have h1 := ih (addS l r)
    have h2 := length_addS l r
    simp only [addAll, List.foldl_cons, List.length_cons] at h1 ⊢
    omega

/-- In whatever order: one row. -/
theorem orders_xy {a b : List Rg} (ha : RowP a) (hb : RowP b) : addAll a b = addAll b a.reverse :=
  rowP_ext (rowP_addAll ha hb.ok) (rowP_addAll hb (fun r hr => ha.ok r (by simpa using hr))) (fun n => by
    rw [memR_addAll ha hb.ok, memR_addAll hb (fun r hr => ha.ok r (by simpa using hr)), memR_reverse]; exact Or.comm)
theorem orders_xz {a b : List Rg} (ha : RowP a) (hb : RowP b) : addAll a b = addAll (addAll a b) a :=
  rowP_ext (rowP_addAll ha hb.ok) (rowP_addAll (rowP_addAll ha hb.ok) ha.ok) (fun n => by
    rw [memR_addAll (rowP_addAll ha hb.ok) ha.ok, memR_addAll ha hb.ok]
    constructor
    · exact fun h => .inl h
    · rintro (h | h)
      · exact h
      · exact .inl h)

end Go.Proofs.Ytckonmlcgfbojaa

namespace Go.Proofs.Ytckonmlcgfbojaa
open Go.RowKit

set_option maxHeartbeats 1000000 in
theorem add_no (v : Value) (l : List Rg) (p q : Int) (w : World) (h : SlR w v l) (hl : l.length < 1000000) (h0 : ¬ Ok (p, q)) :
    Calls Try.prog 30 #[v, .agg #[.int .i64 p, .int .i64 q]] w (RetRow w 2 78 l.length (cellsR l)) := by
  unfold Ok at h0
  simp only at h0
  have hl2 : l.length < 1000000000 := by omega
  by_cases d0 : q ≤ p
  · clear h0
    go_enter Try.func30, Try.ntmps30
    go_wp2_with fail
    refine (own_any _ _ _ (h.keep ((Below.refl _ _).alloc (Nat.le_refl _) _) (Nat.le_refl _)) hl2).mono ?_
    rintro e w5 ⟨v5, rfl, ho5, hb5⟩
    go_wp2
    go_ret
    exact ⟨v5, rfl, owns_base ho5 (by simp), ((Below.refl _ _).alloc (Nat.le_refl _) _).trans (hb5.mono (by simp))⟩
  have e0 : decide (q ≤ p) = false := by simpa using d0
  by_cases d1 : p < 0
  · clear h0
    go_enter Try.func30, Try.ntmps30
    go_wp2_with fail
    refine (own_any _ _ _ (h.keep ((Below.refl _ _).alloc (Nat.le_refl _) _) (Nat.le_refl _)) hl2).mono ?_
    rintro e w5 ⟨v5, rfl, ho5, hb5⟩
    go_wp2
    go_ret
    exact ⟨v5, rfl, owns_base ho5 (by simp), ((Below.refl _ _).alloc (Nat.le_refl _) _).trans (hb5.mono (by simp))⟩
  have e1 : decide (p < 0) = false := by simpa using d1
  have d2 : 1073741824 < q := by omega
  clear h0
  go_enter Try.func30, Try.ntmps30
  go_wp2_with fail
  refine (own_any _ _ _ (h.keep ((Below.refl _ _).alloc (Nat.le_refl _) _) (Nat.le_refl _)) hl2).mono ?_
  rintro e w5 ⟨v5, rfl, ho5, hb5⟩
  go_wp2
  go_ret
  exact ⟨v5, rfl, owns_base ho5 (by simp), ((Below.refl _ _).alloc (Nat.le_refl _) _).trans (hb5.mono (by simp))⟩

/-- ranges.Add, of whatever range. -/
theorem add_any (v : Value) (l : List Rg) (p q : Int) (w : World) (h : SlR w v l) (hl : l.length < 1000000) :
    Calls Try.prog 30 #[v, .agg #[.int .i64 p, .int .i64 q]] w (RetRow w 2 78 (addS l (p, q)).length (cellsR (addS l (p, q)))) := by
  by_cases hr : Ok (p, q)
  · have e : addS l (p, q) = addT l (p, q) := by
      unfold addS; unfold Ok at hr; simp only at hr ⊢; rw [if_neg (by omega)]
    rw [e]
    unfold Ok at hr
    exact add_yes v l p q w h hl hr.2.1 hr.1 hr.2.2
  · have e : addS l (p, q) = l := by
      unfold addS; unfold Ok at hr; simp only at hr ⊢; rw [if_pos (by omega)]
    rw [e]
    exact add_no v l p q w h hl hr

end Go.Proofs.Ytckonmlcgfbojaa
