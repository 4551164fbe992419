/- Plain Lean: each that was set is told once. -/
import Derived.Test.YtgjphckjhkdlnaaTArr
namespace Go.Proofs.Ytgjphckjhkdlnaa

/-- The array tells of each id its time, or less than nought. -/
structure OnceP (M : List Rw) (la : Nat → Int) : Prop where
  mem : ∀ r ∈ M, ∃ j : Nat, j < 50 ∧ r.1 = j ∧ r.2 = la j ∧ 0 ≤ r.2 ∧ r.2 < 40
  all : ∀ j, j < 50 → 0 ≤ la j → ((j : Int), la j) ∈ M

theorem once_start : OnceP [] (fun _ => -1) := ⟨by simp, fun j _ h => by omega⟩

theorem once_len {M : List Rw} {la : Nat → Int} (h : OnceP M la) (hs : Srt M) : M.length ≤ 50 := by
  have h1 : (M.map (·.1)).Perm (((List.range 50).filter (fun j => decide (0 ≤ la j))).map (fun j : Nat => (j : Int))) := by
    refine (List.perm_ext_iff_of_nodup hs.2 ?_).2 fun a => ?_
    · exact List.pairwise_map.2 ((List.Pairwise.filter _ (show List.Pairwise _ (List.range 50) from List.nodup_range)).imp (fun h e => h (Int.ofNat.inj e)))
    · simp only [List.mem_map, List.mem_filter, List.mem_range, decide_eq_true_iff]
      constructor
      · rintro ⟨x, hx, rfl⟩
        obtain ⟨j, a, b, c, d, _⟩ := h.mem x hx
        exact ⟨j, ⟨a, by omega⟩, b.symm⟩
      · rintro ⟨j, ⟨a, b⟩, rfl⟩
        exact ⟨_, h.all j a b, rfl⟩
  have h2 := h1.length_eq
  have h3 := List.length_filter_le (fun j => decide (0 ≤ la j)) (List.range 50)
  simp only [List.length_map, List.length_range] at h2 h3
  omega

theorem once_set {M : List Rw} {la : Nat → Int} (h : OnceP M la) (hs : Srt M) (k : Nat) (hk : k < 50) (t : Int) (h0 : 0 ≤ t) (h1 : t < 40) :
    (setW M k t).2 = 0 ∧ OnceP (setW M k t).1 (upd la k t) := by
  have hl := once_len h hs
  have e : setW M k t = (insW (remW M k) (k, t), 0) := by rw [setW, if_neg (by omega), if_neg (by omega)]
  rw [e]
  refine ⟨rfl, fun r hr => ?_, fun j hj hp => ?_⟩
  · rcases mem_insW.1 hr with rfl | hr
    · exact ⟨k, hk, rfl, by rw [upd_same], h0, h1⟩
    · obtain ⟨a, b⟩ := mem_remW.1 hr
      obtain ⟨j, x1, x2, x3, x4, x5⟩ := h.mem r a
      exact ⟨j, x1, x2, by rw [upd_ne _ _ _ _ (by rintro rfl; exact b x2)]; exact x3, x4, x5⟩
  · by_cases hjk : j = k
    · subst hjk
      rw [upd_same]
      exact mem_insW.2 (.inl rfl)
    · rw [upd_ne _ _ _ _ hjk] at hp ⊢
      exact mem_insW.2 (.inr (mem_remW.2 ⟨h.all j hj hp, by simp only; omega⟩))

/-- What is told, and what is left. -/
theorem dueW_append (M : List Rw) (now : Int) : ∃ A, M = A ++ (dueW M now).2 ∧ (dueW M now).1 = A.map (·.1) ∧ (∀ r ∈ A, r.2 ≤ now) := by
  induction M with
  | nil => exact ⟨[], rfl, rfl, by simp⟩
  | cons r t ih =>
    by_cases hr : r.2 ≤ now
    · obtain ⟨A, h1, h2, h3⟩ := ih
      refine ⟨r :: A, ?_, ?_, ?_⟩
      · rw [dueW, if_pos hr, List.cons_append, ← h1]
      · rw [dueW, if_pos hr, h2]; rfl
      · intro x hx
        rcases List.mem_cons.1 hx with rfl | hx
        · exact hr
        · exact h3 x hx
    · exact ⟨[], by rw [dueW, if_neg hr]; rfl, by rw [dueW, if_neg hr]; rfl, by simp⟩
theorem dueW_left {M : List Rw} (hs : Srt M) (now : Int) : ∀ r ∈ (dueW M now).2, now < r.2 := by
  induction M with
  | nil => simp [dueW]
  | cons r t ih =>
    obtain ⟨h1, _, h3⟩ := srt_cons.1 hs
    by_cases hr : r.2 ≤ now
    · rw [dueW, if_pos hr]; exact ih h3
    · rw [dueW, if_neg hr]
      intro x hx
      rcases List.mem_cons.1 hx with rfl | hx
      · omega
      · have := h1 x hx
        unfold ltW at this; omega

/-- What was told is struck out. -/
def clrS (la : Nat → Int) (l : List Int) : Nat → Int := l.foldl (fun la id => upd la id.toNat (-1)) la
theorem clr_take (la : Nat → Int) (l : List Int) (k : Nat) (hk : k < l.length) : clrS la (l.take (k + 1)) = upd (clrS la (l.take k)) l[k].toNat (-1) := by
  unfold clrS
  rw [List.take_succ_eq_append_getElem hk, List.foldl_append]; rfl
theorem clr_spec (l : List Int) (hl : ∀ id ∈ l, 0 ≤ id) (la : Nat → Int) (j : Nat) : clrS la l j = if (j : Int) ∈ l then -1 else la j := by
  induction l generalizing la with
  | nil => simp [clrS]
  | cons x t ih =>
    have hx := hl x (by simp)
    show clrS (upd la x.toNat (-1)) t j = _
    rw [ih (fun id h => hl id (by simp [h]))]
    by_cases h1 : (j : Int) ∈ t
    · rw [if_pos h1, if_pos (by simp [h1])]
    · rw [if_neg h1]
      by_cases h2 : j = x.toNat
      · subst h2
        rw [upd_same, if_pos (by have : ((x.toNat : Nat) : Int) = x := by omega
                                 rw [this]; simp)]
      · rw [upd_ne _ _ _ _ h2, if_neg (by simp only [List.mem_cons, h1, or_false]; omega)]

theorem once_due {M : List Rw} {la : Nat → Int} (h : OnceP M la) (hs : Srt M) (now : Int) : OnceP (dueW M now).2 (clrS la (dueW M now).1) ∧ (∀ j, j < 50 → 0 ≤ clrS la (dueW M now).1 j → now < clrS la (dueW M now).1 j) := by
  obtain ⟨A, h1, h2, h3⟩ := dueW_append M now
  have hleft := dueW_left hs now
  have hnd := hs.2
  rw [h1, List.map_append, List.nodup_append] at hnd
  have hpos : ∀ id ∈ (dueW M now).1, 0 ≤ id := by
    rw [h2]
    intro id hid
    obtain ⟨r, hr, rfl⟩ := List.mem_map.1 hid
    obtain ⟨j, _, e, _⟩ := h.mem r (by rw [h1]; simp [hr])
    omega
  have hspec := clr_spec (dueW M now).1 hpos la
  have hmem : ∀ r ∈ (dueW M now).2, r ∈ M := fun r hr => by rw [h1]; simp [hr]
  refine ⟨⟨fun r hr => ?_, fun j hj hp => ?_⟩, fun j hj hp => ?_⟩
  · obtain ⟨j, a, b, c, d⟩ := h.mem r (hmem r hr)
    refine ⟨j, a, b, ?_, d⟩
    rw [hspec, if_neg, c]
    rw [h2]
    intro hin
    exact hnd.2.2 _ hin _ (List.mem_map_of_mem (f := fun z : Rw => z.1) hr) (by rw [b])
  · rw [hspec] at hp ⊢
    by_cases hin : (j : Int) ∈ (dueW M now).1
    · rw [if_pos hin] at hp; omega
    · rw [if_neg hin] at hp ⊢
      have := h.all j hj hp
      rw [h1] at this
      rcases List.mem_append.1 this with hA | hR
      · exact absurd (by rw [h2]; exact List.mem_map_of_mem (f := fun z : Rw => z.1) hA) hin
      · exact hR
  · rw [hspec] at hp ⊢
    by_cases hin : (j : Int) ∈ (dueW M now).1
    · rw [if_pos hin] at hp; omega
    · rw [if_neg hin] at hp ⊢
      have := h.all j hj hp
      rw [h1] at this
      rcases List.mem_append.1 this with hA | hR
      · exact absurd (by rw [h2]; exact List.mem_map_of_mem (f := fun z : Rw => z.1) hA) hin
      · exact hleft _ hR

/-- What the law asks of two that are told. -/
theorem once_pair {M : List Rw} {la : Nat → Int} (h : OnceP M la) (_hs : Srt M) (now : Int) (k : Nat) (hk : k < (dueW M now).1.length) :
    ∃ j : Nat, j < 50 ∧ (dueW M now).1[k] = j ∧ 0 ≤ la j ∧ la j ≤ now := by
  obtain ⟨A, h1, h2, h3⟩ := dueW_append M now
  have hk2 : k < A.length := by rw [h2] at hk; simpa using hk
  obtain ⟨j, a, b, c, d, _⟩ := h.mem A[k] (by rw [h1]; simp)
  refine ⟨j, a, ?_, by omega, ?_⟩
  · simp only [h2, List.getElem_map]; exact b
  · rw [← c]; exact h3 _ (List.getElem_mem hk2)
theorem once_next {M : List Rw} {la : Nat → Int} (h : OnceP M la) (hs : Srt M) (now : Int) (k : Nat) (hk : k + 1 < (dueW M now).1.length) (j j' : Nat) (hj : (dueW M now).1[k]'(by omega) = j) (hj' : (dueW M now).1[k + 1] = j') :
    la j < la j' ∨ (la j = la j' ∧ j < j') := by
  obtain ⟨A, h1, h2, h3⟩ := dueW_append M now
  have hk2 : k + 1 < A.length := by rw [h2] at hk; simpa using hk
  simp only [h2, List.getElem_map] at hj hj'
  have hmA : ∀ r ∈ A, r ∈ M := fun r hr => by rw [h1]; simp [hr]
  obtain ⟨i, _, b, c, _⟩ := h.mem A[k] (hmA _ (List.getElem_mem _))
  obtain ⟨i', _, b', c', _⟩ := h.mem A[k + 1] (hmA _ (List.getElem_mem _))
  have e1 : i = j := by omega
  have e2 : i' = j' := by omega
  subst e1 e2
  have hA : A.Pairwise ltW := (List.pairwise_append.1 (show (A ++ (dueW M now).2).Pairwise ltW from h1 ▸ hs.1)).1
  have := List.pairwise_iff_getElem.1 hA k (k + 1) (by omega) hk2 (by omega)
  unfold ltW at this
  omega

end Go.Proofs.Ytgjphckjhkdlnaa
