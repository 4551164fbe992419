/- Plain Lean: rows of ids and times, heaps of them. -/
import Derived.WalkKit
namespace Go.Proofs.Ytoiegjfpoamcbaa

/-- An id, its time. -/
abbrev Rw := Int × Int
def ltW (a b : Rw) : Prop := a.2 < b.2 ∨ (a.2 = b.2 ∧ a.1 < b.1)
def leW (a b : Rw) : Prop := a.2 < b.2 ∨ (a.2 = b.2 ∧ a.1 ≤ b.1)
instance (a b : Rw) : Decidable (ltW a b) := by unfold ltW; exact inferInstance
instance (a b : Rw) : Decidable (leW a b) := by unfold leW; exact inferInstance
theorem not_ltW {a b : Rw} : ¬ ltW a b ↔ leW b a := by unfold ltW leW; omega
theorem ltW_le {a b : Rw} (h : ltW a b) : leW a b := by unfold ltW leW at *; omega
theorem leW_trans {a b c : Rw} (h : leW a b) (k : leW b c) : leW a c := by unfold leW at *; omega
theorem leW_refl (a : Rw) : leW a a := by unfold leW; omega
theorem leW_antisymm {a b : Rw} (h : leW a b) (k : leW b a) : a = b := by
  obtain ⟨a1, a2⟩ := a
  obtain ⟨b1, b2⟩ := b
  unfold leW at *
  simp only at h k
  have h1 : a2 = b2 := by omega
  have h2 : a1 = b1 := by omega
  rw [h1, h2]
theorem ltW_tri (a b : Rw) : ltW a b ∨ a = b ∨ ltW b a := by
  by_cases h : ltW a b
  · exact .inl h
  · by_cases k : ltW b a
    · exact .inr (.inr k)
    · exact .inr (.inl (leW_antisymm (not_ltW.1 k) (not_ltW.1 h)))

/-- The i-th row. -/
def rw_ (L : List Rw) (i : Nat) : Rw := L.getD i (0, 0)
theorem rw_eq (L : List Rw) (i : Nat) (h : i < L.length) : rw_ L i = L[i] := by simp [rw_, h]

def swapW (L : List Rw) (i j : Nat) : List Rw := (L.set i (rw_ L j)).set j (rw_ L i)
theorem length_swapW (L : List Rw) (i j : Nat) : (swapW L i j).length = L.length := by simp [swapW]
theorem rw_swap (L : List Rw) (i j k : Nat) (hi : i < L.length) (hj : j < L.length) : rw_ (swapW L i j) k = if k = j then rw_ L i else if k = i then rw_ L j else rw_ L k := by
  unfold swapW
  by_cases h1 : k = j
  · subst h1; rw [if_pos rfl]; simp [rw_, hj]
  · rw [if_neg h1]
    by_cases h2 : k = i
    · subst h2; rw [if_pos rfl]
      unfold rw_
      rw [List.getD_eq_getElem?_getD, List.getElem?_set_ne (by omega)]
      simp [hi]
    · rw [if_neg h2]
      unfold rw_
      rw [List.getD_eq_getElem?_getD, List.getElem?_set_ne (by omega), List.getElem?_set_ne (by omega), List.getD_eq_getElem?_getD]

theorem perm_swapW (L : List Rw) (i j : Nat) (hi : i < L.length) (hj : j < L.length) : (swapW L i j).Perm L := by
  unfold swapW
  rw [rw_eq L i hi, rw_eq L j hj]
  exact List.set_set_perm hi hj

/-- The parent's place. -/
def par (i : Nat) : Nat := (i - 1) / 2
/-- The first n rows are a heap. -/
def Hp (L : List Rw) (n : Nat) : Prop := ∀ k, 0 < k → k < n → leW (rw_ L (par k)) (rw_ L k)
/-- .. but for the row at j, that may be less than its parent. -/
def HpUp (L : List Rw) (n j : Nat) : Prop := (∀ k, 0 < k → k < n → k ≠ j → leW (rw_ L (par k)) (rw_ L k)) ∧ (∀ k, 0 < k → k < n → par k = j → 0 < j → leW (rw_ L (par j)) (rw_ L k))
/-- .. but for the row at i (from i0 on), that may be greater than its children; at i0 it may be less than its parent, too. -/
def HpDn (L : List Rw) (n i0 i : Nat) : Prop := (∀ k, 0 < k → k < n → par k ≠ i → (k ≠ i0 ∨ i ≠ i0) → leW (rw_ L (par k)) (rw_ L k)) ∧ (∀ k, 0 < k → k < n → par k = i → 0 < i → leW (rw_ L (par i)) (rw_ L k))

theorem par_lt {k : Nat} (h : 0 < k) : par k < k := by unfold par; omega

theorem up_stop {L : List Rw} {n j : Nat} (h : HpUp L n j) (hj : j = 0 ∨ leW (rw_ L (par j)) (rw_ L j)) : Hp L n := by
  intro k h0 hk
  by_cases hkj : k = j
  · subst hkj
    rcases hj with hj | hj
    · omega
    · exact hj
  · exact h.1 k h0 hk hkj

theorem up_step {L : List Rw} {n j : Nat} (hn : n ≤ L.length) (hjn : j < n) (h0 : 0 < j) (h : HpUp L n j) (hl : ltW (rw_ L j) (rw_ L (par j))) : HpUp (swapW L (par j) j) n (par j) := by
  have hp := par_lt h0
  have hs := fun k => rw_swap L (par j) j k (by omega) (by omega)
  constructor
  · intro k k0 kn hk
    rw [hs, hs]
    by_cases h1 : k = j
    · subst h1
      rw [if_pos rfl, if_neg (by omega), if_pos rfl]
      exact ltW_le hl
    · rw [if_neg h1, if_neg hk]
      by_cases h2 : par k = j
      · rw [if_pos h2]
        exact h.2 k k0 kn h2 h0
      · rw [if_neg h2]
        by_cases h3 : par k = par j
        · rw [if_pos h3]
          have := h.1 k k0 kn h1
          rw [h3] at this
          exact leW_trans (ltW_le hl) this
        · rw [if_neg h3]
          exact h.1 k k0 kn h1
  · intro k k0 kn hk hpos
    have hpp := par_lt hpos
    rw [hs, hs, if_neg (by omega), if_neg (by omega)]
    have hpj : leW (rw_ L (par (par j))) (rw_ L (par j)) := h.1 (par j) hpos (by omega) (by omega)
    by_cases h1 : k = j
    · rw [if_pos h1]; exact hpj
    · rw [if_neg h1, if_neg (by have := par_lt k0; omega)]
      have := h.1 k k0 kn h1
      rw [hk] at this
      exact leW_trans hpj this

/-- Of an append at the end. -/
theorem up_start {L : List Rw} (r : Rw) (h : Hp L L.length) : HpUp (L ++ [r]) (L.length + 1) L.length := by
  have he : ∀ k, k < L.length → rw_ (L ++ [r]) k = rw_ L k := fun k hk => by
    unfold rw_; rw [List.getD_eq_getElem?_getD, List.getElem?_append_left hk, List.getD_eq_getElem?_getD]
  constructor
  · intro k k0 kn hk
    rw [he k (by omega), he _ (by have := par_lt k0; omega)]
    exact h k k0 (by omega)
  · intro k k0 kn hk _
    have := par_lt k0
    omega

theorem kid {k i : Nat} (h0 : 0 < k) : par k = i ↔ k = 2 * i + 1 ∨ k = 2 * i + 2 := by unfold par; omega

/-- The lesser child j of i is less: they change places. -/
theorem dn_step {L : List Rw} {n i0 i j : Nat} (hn : n ≤ L.length) (hjn : j < n) (hj : par j = i) (h0 : 0 < j) (hi0 : i0 ≤ i) (h : HpDn L n i0 i)
    (hl : ltW (rw_ L j) (rw_ L i)) (hm : ∀ k, 0 < k → k < n → par k = i → leW (rw_ L j) (rw_ L k)) : HpDn (swapW L i j) n i0 j := by
  have hp := par_lt h0
  rw [hj] at hp
  have hs := fun k => rw_swap L i j k (by omega) (by omega)
  constructor
  · intro k k0 kn hk _
    rw [hs, hs]
    rw [if_neg hk]
    by_cases h2 : par k = i
    · rw [if_pos h2]
      by_cases h1 : k = j
      · rw [if_pos h1]; exact ltW_le hl
      · rw [if_neg h1, if_neg (by have := par_lt k0; omega)]
        exact hm k k0 kn h2
    · rw [if_neg h2]
      have h1 : k ≠ j := fun e => h2 (e ▸ hj)
      rw [if_neg h1]
      by_cases h3 : k = i
      · rw [if_pos h3]
        subst h3
        exact h.2 j h0 hjn hj k0
      · rw [if_neg h3]
        by_cases h4 : k = i0
        · subst h4
          exact h.1 k k0 kn h2 (.inr (Ne.symm h3))
        · exact h.1 k k0 kn h2 (.inl h4)
  · intro k k0 kn hk _
    have hkk := par_lt k0
    rw [hj, hs, hs, if_neg (by omega), if_pos rfl, if_neg (by omega), if_neg (by omega)]
    have := h.1 k k0 kn (by omega) (.inl (by omega))
    rw [hk] at this
    exact this

theorem dn_stop {L : List Rw} {n i0 i : Nat} (h : HpDn L n i0 i) (hi : i ≠ i0) (hm : ∀ k, 0 < k → k < n → par k = i → leW (rw_ L i) (rw_ L k)) : Hp L n := by
  intro k k0 kn
  by_cases h1 : par k = i
  · have := hm k k0 kn h1; rw [h1]; exact this
  · exact h.1 k k0 kn h1 (.inr hi)

theorem dn_none {L : List Rw} {n i0 : Nat} (h : HpDn L n i0 i0) (hm : ∀ k, 0 < k → k < n → par k = i0 → leW (rw_ L i0) (rw_ L k)) : HpUp L n i0 := by
  constructor
  · intro k k0 kn hk
    by_cases h1 : par k = i0
    · have := hm k k0 kn h1; rw [h1]; exact this
    · exact h.1 k k0 kn h1 (.inl hk)
  · intro k k0 kn hk hpos
    exact h.2 k k0 kn hk hpos

/-- A heap with one row turned. -/
theorem fix_start {L : List Rw} {n i : Nat} (r : Rw) (h : Hp L n) (_hi : i < L.length) : HpDn (L.set i r) n i i := by
  have he : ∀ k, k ≠ i → rw_ (L.set i r) k = rw_ L k := fun k hk => by
    unfold rw_; rw [List.getD_eq_getElem?_getD, List.getElem?_set_ne (by omega), List.getD_eq_getElem?_getD]
  constructor
  · intro k k0 kn hk hd
    have hki : k ≠ i := by rcases hd with h | h; exact h; exact absurd rfl h
    rw [he k hki, he _ hk]
    exact h k k0 kn
  · intro k k0 kn hk hpos
    have hkk := par_lt k0
    have hpi := par_lt hpos
    rw [he k (by omega), he _ (by omega)]
    have h1 := h k k0 kn
    rw [hk] at h1
    by_cases hin : i < n
    · exact leW_trans (h i hpos hin) h1
    · omega

theorem hp_head {L : List Rw} {n : Nat} (h : Hp L n) : ∀ k, k < n → leW (rw_ L 0) (rw_ L k) := by
  intro k
  induction k using Nat.strongRecOn with
  | ind k ih =>
    intro hk
    by_cases h0 : k = 0
    · subst h0; exact leW_refl _
    · have hp := par_lt (Nat.pos_of_ne_zero h0)
      exact leW_trans (ih (par k) hp (by omega)) (h k (by omega) hk)

theorem Hp.mono {L : List Rw} {n m : Nat} (h : Hp L n) (hm : m ≤ n) : Hp L m := fun k k0 km => h k k0 (by omega)

/-- A heap of which the place i is given the last row: but for i it is a heap of the others. -/
theorem rem_start {L : List Rw} {i : Nat} (h : Hp L L.length) (hi : i < L.length - 1) : HpDn (swapW L i (L.length - 1)) (L.length - 1) i i := by
  have hs := fun k => rw_swap L i (L.length - 1) k (by omega) (by omega)
  constructor
  · intro k k0 kn hk hd
    have hki : k ≠ i := by rcases hd with h | h; exact h; exact absurd rfl h
    have hkk := par_lt k0
    rw [hs, hs, if_neg (by omega), if_neg hk, if_neg (by omega), if_neg hki]
    exact h k k0 (by omega)
  · intro k k0 kn hk hpos
    have hkk := par_lt k0
    have hpi := par_lt hpos
    rw [hs, hs, if_neg (by omega), if_neg (by omega), if_neg (by omega), if_neg (by omega)]
    have h1 := h k k0 (by omega)
    rw [hk] at h1
    exact leW_trans (h i hpos (by omega)) h1

end Go.Proofs.Ytoiegjfpoamcbaa
