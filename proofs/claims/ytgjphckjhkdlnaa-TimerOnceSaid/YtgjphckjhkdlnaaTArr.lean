/- Arrays in memory, as functions. -/
import Derived.Test.YtgjphckjhkdlnaaTLawD
namespace Go.Proofs.Ytgjphckjhkdlnaa
open Go.RowKit

def upd {α : Type} (g : Nat → α) (k : Nat) (u : α) : Nat → α := fun j => if j = k then u else g j
theorem upd_same {α : Type} (g : Nat → α) (k : Nat) (u : α) : upd g k u k = u := by simp [upd]
theorem upd_ne {α : Type} (g : Nat → α) (k j : Nat) (u : α) (h : j ≠ k) : upd g k u j = g j := by simp [upd, h]

/-- Block A is an array of n cells that read as g. -/
structure ArrF (w : World) (A : Nat) (ty : TypeId) (n : Nat) (g : Nat → Value) : Prop where
  obj : w.heap[A]? = some (.cells ((List.range n).map g).toArray ty (0, 0))

theorem ArrF.lt {w : World} {A n : Nat} {ty : TypeId} {g : Nat → Value} (h : ArrF w A ty n g) : A < w.heap.size := (Array.getElem?_eq_some_iff.1 h.obj).1
theorem ArrF.cell {w : World} {A n : Nat} {ty : TypeId} {g : Nat → Value} (h : ArrF w A ty n g) (k : Nat) (hk : k < n) : w.cell? ⟨A, k, none⟩ = some (g k) ∧ w.frozen? ⟨A, k, none⟩ = false := by
  have := h.obj
  constructor
  · simp [World.cell?, this, hk]
  · simp [World.frozen?, this]
theorem ArrF.set {w : World} {A n : Nat} {ty : TypeId} {g : Nat → Value} (h : ArrF w A ty n g) (k : Nat) (hk : k < n) (u : Value) : ArrF (w.setCell ⟨A, k, none⟩ u) A ty n (upd g k u) := by
  refine ⟨?_⟩
  have ho := h.obj
  have e : ((List.range n).map g).set k u = (List.range n).map (upd g k u) := by
    refine List.ext_getElem (by simp) (fun j h1 h2 => ?_)
    rw [List.getElem_set]
    simp only [List.length_map, List.length_range] at h2
    by_cases hj : k = j
    · subst hj; simp [upd]
    · rw [if_neg hj]
      simp [upd, Ne.symm hj]
  rw [← e]
  simp [World.setCell, Array.getElem?_modify, ho, Array.setIfInBounds, hk]
theorem ArrF.other {w : World} {A n : Nat} {ty : TypeId} {g : Nat → Value} (h : ArrF w A ty n g) (p : Addr) (hp : A ≠ p.block) (u : Value) : ArrF (w.setCell p u) A ty n g := ⟨by rw [setCell_block_other _ _ _ _ hp]; exact h.obj⟩
theorem ArrF.below {w w' : World} {A n B : Nat} {ty : TypeId} {g : Nat → Value} (h : ArrF w A ty n g) (hb : Below B w w') (hB : w.heap.size ≤ B) : ArrF w' A ty n g := ⟨by rw [hb.block A (Nat.lt_of_lt_of_le h.lt hB)]; exact h.obj⟩
theorem ArrF.mv {w w' : World} {A n T : Nat} {ty : TypeId} {g : Nat → Value} {v v' : Value} (h : ArrF w A ty n g) (m : Mv T w v w' v') (h1 : A ≠ T) (h2 : v.ownBlock ≠ some A) : ArrF w' A ty n g := ⟨by rw [m.block A h.lt h1 h2]; exact h.obj⟩

theorem St.setOther {w0 w : World} {T : Nat} {v : Value} {M : List Rw} (h : St w0 w T v M) (p : Addr) (u : Value) (h1 : p.block ≠ T) (h2 : v.ownBlock ≠ some p.block) (h3 : w0.heap.size ≤ p.block) : St w0 (w.setCell p u) T v M := by
  obtain ⟨L, ht, hp, hh⟩ := h.rep
  refine ⟨⟨L, ⟨by rw [setCell_block_other _ _ _ _ h1.symm]; exact ht.obj, ?_, ht.base, ht.apart⟩, hp, hh⟩, h.srt, h.len, h.bel.setCell h3 u⟩
  obtain ⟨a, b⟩ := ht.row
  refine ⟨a, ?_⟩
  rcases b with b | ⟨g, cap, cur, rfl, hg, hx, r⟩
  · exact .inl b
  · exact .inr ⟨g, cap, cur, rfl, hg, by rw [setCell_block_other _ _ _ _ (fun e => h2 (by rw [← e]; rfl))]; exact hx, r⟩

/-! ### what is next, told by arrays -/
structure NextP (M : List Rw) (ws : Nat → Int) (os : Nat → Bool) : Prop where
  has : ∀ id, hasW M id = true ↔ ∃ j : Nat, j < 20 ∧ id = j ∧ os j = true
  tm : ∀ r ∈ M, ∃ j : Nat, j < 20 ∧ r.1 = j ∧ r.2 = ws j
  bd : ∀ r ∈ M, 0 ≤ r.2 ∧ r.2 < 100

theorem next_start (ws : Nat → Int) : NextP [] ws (fun _ => false) := ⟨fun id => by simp [hasW], by simp, by simp⟩

theorem hasW_remW (M : List Rw) (c id : Int) : hasW (remW M c) id = (hasW M id && decide (id ≠ c)) := by
  rw [Bool.eq_iff_iff]
  unfold hasW
  simp only [List.any_eq_true, decide_eq_true_iff, Bool.and_eq_true]
  constructor
  · rintro ⟨x, hx, rfl⟩
    obtain ⟨h1, h2⟩ := mem_remW.1 hx
    exact ⟨⟨x, h1, rfl⟩, h2⟩
  · rintro ⟨⟨x, hx, rfl⟩, h2⟩
    exact ⟨x, mem_remW.2 ⟨hx, h2⟩, rfl⟩

theorem next_len {M : List Rw} {ws : Nat → Int} {os : Nat → Bool} (h : NextP M ws os) (hs : Srt M) : M.length = ((List.range 20).filter os).length := by
  have h1 : (M.map (·.1)).Perm (((List.range 20).filter os).map (fun j : Nat => (j : Int))) := by
    refine (List.perm_ext_iff_of_nodup hs.2 ?_).2 fun a => ?_
    · exact List.pairwise_map.2 ((List.Pairwise.filter os (show List.Pairwise _ (List.range 20) from List.nodup_range)).imp (fun h e => h (Int.ofNat.inj e)))
    · have := h.has a
      unfold hasW at this
      simp only [List.any_eq_true, decide_eq_true_iff] at this
      simp only [List.mem_map, List.mem_filter, List.mem_range]
      constructor
      · rintro ⟨x, hx, rfl⟩
        obtain ⟨j, h1, h2, h3⟩ := this.1 ⟨x, hx, rfl⟩
        exact ⟨j, ⟨h1, h3⟩, h2.symm⟩
      · rintro ⟨j, ⟨h1, h2⟩, rfl⟩
        obtain ⟨x, hx, e⟩ := this.2 ⟨j, h1, rfl, h2⟩
        exact ⟨x, hx, e⟩
  have := h1.length_eq
  simpa using this

theorem next_set {M : List Rw} {ws : Nat → Int} {os : Nat → Bool} (h : NextP M ws os) (hs : Srt M) (k : Nat) (hk : k < 20) (t : Int) (h0 : 0 ≤ t) (h1 : t < 100) :
    (setW M k t).2 = 0 ∧ NextP (setW M k t).1 (upd ws k t) (upd os k true) := by
  have hl : M.length ≤ 20 := by
    rw [next_len h hs]
    have := List.length_filter_le os (List.range 20)
    simpa using this
  have e : setW M k t = (insW (remW M k) (k, t), 0) := by rw [setW, if_neg (by omega), if_neg (by omega)]
  rw [e]
  refine ⟨rfl, fun id => ?_, fun r hr => ?_, fun r hr => ?_⟩
  · rw [hasW_insW, hasW_remW]
    simp only [Bool.or_eq_true, decide_eq_true_iff, Bool.and_eq_true, h.has]
    constructor
    · rintro (rfl | ⟨⟨j, h1, rfl, h2⟩, h3⟩)
      · exact ⟨k, hk, rfl, upd_same _ _ _⟩
      · exact ⟨j, h1, rfl, by rw [upd_ne _ _ _ _ (by omega)]; exact h2⟩
    · rintro ⟨j, h1, rfl, h2⟩
      by_cases hj : j = k
      · subst hj; exact .inl rfl
      · rw [upd_ne _ _ _ _ hj] at h2
        exact .inr ⟨⟨j, h1, rfl, h2⟩, by omega⟩
  · rcases mem_insW.1 hr with rfl | hr
    · exact ⟨k, hk, rfl, by rw [upd_same]⟩
    · obtain ⟨h1, h2⟩ := mem_remW.1 hr
      obtain ⟨j, a, b, c⟩ := h.tm r h1
      exact ⟨j, a, b, by rw [upd_ne _ _ _ _ (by rintro rfl; exact h2 b)]; exact c⟩
  · rcases mem_insW.1 hr with rfl | hr
    · exact ⟨h0, h1⟩
    · exact h.bd r (mem_remW.1 hr).1
theorem next_cancel {M : List Rw} {ws : Nat → Int} {os : Nat → Bool} (h : NextP M ws os) (k : Nat) (hk : k < 20) : hasW M k = os k ∧ NextP (remW M k) ws (upd os k false) := by
  refine ⟨?_, fun id => ?_, fun r hr => h.tm r (mem_remW.1 hr).1, fun r hr => h.bd r (mem_remW.1 hr).1⟩
  · rw [Bool.eq_iff_iff, h.has]
    constructor
    · rintro ⟨j, _, e, h2⟩
      have : k = j := by omega
      subst this; exact h2
    · intro h2; exact ⟨k, hk, rfl, h2⟩
  · rw [hasW_remW]
    simp only [decide_eq_true_iff, Bool.and_eq_true, h.has]
    constructor
    · rintro ⟨⟨j, h1, rfl, h2⟩, h3⟩
      exact ⟨j, h1, rfl, by rw [upd_ne _ _ _ _ (by omega)]; exact h2⟩
    · rintro ⟨j, h1, rfl, h2⟩
      by_cases hj : j = k
      · subst hj; rw [upd_same] at h2; cases h2
      · rw [upd_ne _ _ _ _ hj] at h2
        exact ⟨⟨j, h1, rfl, h2⟩, by omega⟩

def leastS (ws : Nat → Int) (os : Nat → Bool) : Nat → Int
  | 0 => 1000
  | k + 1 => if os k then (if ws k < leastS ws os k then ws k else leastS ws os k) else leastS ws os k
def countS (os : Nat → Bool) : Nat → Nat
  | 0 => 0
  | k + 1 => if os k then countS os k + 1 else countS os k
theorem count_eq (os : Nat → Bool) (k : Nat) : countS os k = ((List.range k).filter os).length := by
  induction k with
  | zero => rfl
  | succ k ih =>
    rw [countS, ih, List.range_succ, List.filter_append]
    cases h : os k <;> simp [h]
theorem least_spec (ws : Nat → Int) (os : Nat → Bool) (k : Nat) : leastS ws os k ≤ 1000 ∧ (∀ j, j < k → os j = true → leastS ws os k ≤ ws j) ∧ (leastS ws os k = 1000 ∨ ∃ j, j < k ∧ os j = true ∧ ws j = leastS ws os k) := by
  induction k with
  | zero => exact ⟨by simp [leastS], fun j hj => by omega, .inl rfl⟩
  | succ k ih =>
    obtain ⟨h1, h2, h3⟩ := ih
    rw [leastS]
    cases h : os k with
    | false =>
      simp only [Bool.false_eq_true, if_false]
      refine ⟨h1, fun j hj hh => ?_, ?_⟩
      · by_cases e : j = k
        · subst e; rw [h] at hh; cases hh
        · exact h2 j (by omega) hh
      · rcases h3 with h3 | ⟨j, a, b, c⟩
        · exact .inl h3
        · exact .inr ⟨j, by omega, b, c⟩
    | true =>
      simp only [if_true]
      refine ⟨by split <;> omega, fun j hj hh => ?_, ?_⟩
      · by_cases e : j = k
        · subst e; split <;> omega
        · have := h2 j (by omega) hh; split <;> omega
      · split
        · exact .inr ⟨k, by omega, h, rfl⟩
        · rcases h3 with h3 | ⟨j, a, b, c⟩
          · exact .inl h3
          · exact .inr ⟨j, by omega, b, c⟩
theorem next_count {M : List Rw} {ws : Nat → Int} {os : Nat → Bool} (h : NextP M ws os) (hs : Srt M) : countS os 20 = M.length := by rw [count_eq, next_len h hs]
theorem next_least {M : List Rw} {ws : Nat → Int} {os : Nat → Bool} (h : NextP M ws os) (hs : Srt M) (hne : M ≠ []) : leastS ws os 20 = (rw_ M 0).2 := by
  cases M with
  | nil => exact absurd rfl hne
  | cons r t =>
    have e : rw_ (r :: t) 0 = r := rfl
    rw [e]
    obtain ⟨h1, h2, h3⟩ := least_spec ws os 20
    obtain ⟨s1, _, _⟩ := srt_cons.1 hs
    obtain ⟨j, a, b, c⟩ := h.tm r (by simp)
    have hj : os j = true := by
      have : hasW (r :: t) r.1 = true := by simp [hasW]
      obtain ⟨j', x, y, z⟩ := (h.has _).1 this
      have : j' = j := by omega
      subst this; exact z
    have hle := h2 j a hj
    have hbd := h.bd r (by simp)
    rcases h3 with h3 | ⟨i, x, y, z⟩
    · omega
    · have : hasW (r :: t) i = true := (h.has _).2 ⟨i, x, rfl, y⟩
      unfold hasW at this
      simp only [List.any_eq_true, decide_eq_true_iff] at this
      obtain ⟨q, hq, hqi⟩ := this
      obtain ⟨i', x', y', z'⟩ := h.tm q hq
      have : i' = i := by omega
      subst this
      rcases List.mem_cons.1 hq with rfl | hq
      · omega
      · have := s1 q hq
        unfold ltW at this
        omega

end Go.Proofs.Ytgjphckjhkdlnaa
