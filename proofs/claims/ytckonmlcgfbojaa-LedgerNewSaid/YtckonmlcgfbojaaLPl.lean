/- Plain Lean: counters, slices of rights, leases, books, wants. -/
import Derived.Test.YtckonmlcgfbojaaRg
namespace Go.Proofs.Ytckonmlcgfbojaa

/-- A counter. -/
structure Ct where
  key : ByteArray
  coll : Int
  lo : Int
  hi : Int
  start : Int
  up : Int
  down : Int
/-- Rights of a counter. -/
structure Sc where
  key : ByteArray
  up : Int
  down : Int
  uu : Int
  ud : Int
/-- A lease. -/
structure Ls where
  dev : Int
  epoch : Int
  unt : Int
  last : Int
  sl : List Sc
  ids : List Rg
  used : List Int
/-- A book. -/
structure Bk where
  cs : List Ct
  free : List Rg
  ls : List Ls
  bound : List Int
/-- A want. -/
structure Wn where
  key : ByteArray
  up : Int
  down : Int
  ids : Int

instance : DecidableEq Ct := fun a b =>
  if h : a.key = b.key ∧ a.coll = b.coll ∧ a.lo = b.lo ∧ a.hi = b.hi ∧ a.start = b.start ∧ a.up = b.up ∧ a.down = b.down then isTrue (by cases a; cases b; simp_all) else isFalse (fun e => h (by rw [e]; simp))
instance : DecidableEq Sc := fun a b =>
  if h : a.key = b.key ∧ a.up = b.up ∧ a.down = b.down ∧ a.uu = b.uu ∧ a.ud = b.ud then isTrue (by cases a; cases b; simp_all) else isFalse (fun e => h (by rw [e]; simp))
instance : DecidableEq Ls := fun a b =>
  if h : a.dev = b.dev ∧ a.epoch = b.epoch ∧ a.unt = b.unt ∧ a.last = b.last ∧ a.sl = b.sl ∧ a.ids = b.ids ∧ a.used = b.used then isTrue (by cases a; cases b; simp_all) else isFalse (fun e => h (by rw [e]; simp))
instance : DecidableEq Bk := fun a b =>
  if h : a.cs = b.cs ∧ a.free = b.free ∧ a.ls = b.ls ∧ a.bound = b.bound then isTrue (by cases a; cases b; simp_all) else isFalse (fun e => h (by rw [e]; simp))

/-- The place of the first thing that is so; -1. -/
def idxS {α : Type} (p : α → Bool) : List α → Int
  | [] => -1
  | x :: l => if p x then 0 else (if idxS p l = -1 then -1 else idxS p l + 1)
theorem idxS_ge {α : Type} (p : α → Bool) (l : List α) : -1 ≤ idxS p l := by
  induction l with
  | nil => simp [idxS]
  | cons x l ih => unfold idxS; split; omega; split <;> omega
theorem idxS_none {α : Type} {p : α → Bool} {l : List α} (h : ∀ x ∈ l, p x = false) : idxS p l = -1 := by
  induction l with
  | nil => rfl
  | cons x l ih => rw [idxS, h x (by simp), ih (fun y hy => h y (by simp [hy]))]; simp
theorem idxS_at {α : Type} {p : α → Bool} {l : List α} (k : Nat) (hk : k < l.length) (h0 : ∀ j (hj : j < k), p (l[j]'(by omega)) = false) (h1 : p l[k] = true) : idxS p l = k := by
  induction l generalizing k with
  | nil => simp at hk
  | cons x l ih =>
    cases k with
    | zero => rw [idxS, if_pos (by simpa using h1)]; rfl
    | succ k =>
      have hx := h0 0 (by omega)
      have := ih k (by simpa using hk) (fun j hj => by have := h0 (j + 1) (by omega); simpa using this) (by simpa using h1)
      simp only [List.getElem_cons_zero] at hx
      rw [idxS, hx, this]
      simp
/-- What the place tells. -/
theorem idxS_spec {α : Type} (p : α → Bool) (l : List α) : (idxS p l = -1 ∧ ∀ x ∈ l, p x = false) ∨ ∃ k : Nat, ∃ hk : k < l.length, idxS p l = k ∧ p l[k] = true ∧ ∀ j (hj : j < k), p (l[j]'(by omega)) = false := by
  induction l with
  | nil => exact .inl ⟨rfl, by simp⟩
  | cons x l ih =>
    cases hx : p x with
    | true => exact .inr ⟨0, by simp, by simp [idxS, hx], by simpa using hx, fun j hj => by omega⟩
    | false =>
      rcases ih with ⟨h1, h2⟩ | ⟨k, hk, h1, h2, h3⟩
      · refine .inl ⟨by rw [idxS, hx, h1]; simp, fun y hy => ?_⟩
        rcases List.mem_cons.1 hy with rfl | hy
        · exact hx
        · exact h2 y hy
      · refine .inr ⟨k + 1, by simpa using hk, ?_, by simpa using h2, fun j hj => ?_⟩
        · rw [idxS, hx, h1]; simp
        · cases j with
          | zero => simpa using hx
          | succ j => have := h3 j (by omega); simpa using this
theorem idxS_any {α : Type} (p : α → Bool) (l : List α) : decide (0 ≤ idxS p l) = l.any p := by
  rcases idxS_spec p l with ⟨h1, h2⟩ | ⟨k, hk, h1, h2, _⟩
  · rw [h1]
    symm
    have : l.any p = false := by rw [List.any_eq_false]; intro x hx; rw [h2 x hx]; simp
    rw [this]; rfl
  · rw [h1]
    have : l.any p = true := by rw [List.any_eq_true]; exact ⟨l[k], List.getElem_mem hk, h2⟩
    rw [this]; simp

end Go.Proofs.Ytckonmlcgfbojaa
