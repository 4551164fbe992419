/- Plain Lean: what is due, in order. -/
import Derived.Test.YtoiegjfpoamcbaaTPl
namespace Go.Proofs.Ytoiegjfpoamcbaa

def insW : List Rw → Rw → List Rw
  | [], r => [r]
  | x :: t, r => if ltW x r then x :: insW t r else r :: x :: t
def remW (M : List Rw) (id : Int) : List Rw := M.filter fun r => decide (r.1 ≠ id)
def hasW (M : List Rw) (id : Int) : Bool := M.any fun r => decide (r.1 = id)
def setW (M : List Rw) (id tm : Int) : List Rw × Int :=
  if id < 0 then (M, 1) else if hasW M id = false ∧ 100 ≤ M.length then (M, 4) else (insW (remW M id) (id, tm), 0)
def dueW : List Rw → Int → List Int × List Rw
  | [], _ => ([], [])
  | r :: t, now => if r.2 ≤ now then (r.1 :: (dueW t now).1, (dueW t now).2) else ([], r :: t)

/-- In order, each id once. -/
def Srt (M : List Rw) : Prop := M.Pairwise ltW ∧ (M.map (·.1)).Nodup
theorem srt_nil : Srt [] := ⟨List.Pairwise.nil, by simp⟩
theorem srt_cons {r : Rw} {t : List Rw} : Srt (r :: t) ↔ (∀ x ∈ t, ltW r x) ∧ (∀ x ∈ t, x.1 ≠ r.1) ∧ Srt t := by
  unfold Srt
  rw [List.pairwise_cons, List.map_cons, List.nodup_cons]
  constructor
  · rintro ⟨⟨a, b⟩, c, d⟩
    exact ⟨a, fun x hx e => c (e ▸ List.mem_map_of_mem (f := fun y : Rw => y.1) hx), b, d⟩
  · rintro ⟨a, b, c, d⟩
    exact ⟨⟨a, c⟩, fun hh => by obtain ⟨x, hx, he⟩ := List.mem_map.1 hh; exact b x hx he, d⟩

theorem ltW_trans {a b c : Rw} (h : ltW a b) (k : ltW b c) : ltW a c := by unfold ltW at *; omega

theorem perm_insW (M : List Rw) (r : Rw) : (insW M r).Perm (r :: M) := by
  induction M with
  | nil => exact List.Perm.refl _
  | cons x t ih =>
    unfold insW
    split
    · exact (List.Perm.cons x ih).trans (List.Perm.swap r x t)
    · exact List.Perm.refl _
theorem mem_insW {M : List Rw} {r x : Rw} : x ∈ insW M r ↔ x = r ∨ x ∈ M := by rw [(perm_insW M r).mem_iff, List.mem_cons]

theorem srt_insW {M : List Rw} {r : Rw} (h : Srt M) (hr : ∀ x ∈ M, x.1 ≠ r.1) : Srt (insW M r) := by
  induction M with
  | nil => exact srt_cons.2 ⟨by simp, by simp, srt_nil⟩
  | cons x t ih =>
    obtain ⟨h1, h2, h3⟩ := srt_cons.1 h
    have hx := hr x (by simp)
    unfold insW
    split
    · rename_i hl
      refine srt_cons.2 ⟨fun y hy => ?_, fun y hy => ?_, ih h3 (fun y hy => hr y (by simp [hy]))⟩
      · rcases mem_insW.1 hy with rfl | hy
        · exact hl
        · exact h1 y hy
      · rcases mem_insW.1 hy with rfl | hy
        · exact fun e => hx e.symm
        · exact h2 y hy
    · rename_i hl
      have hg : ltW r x := by
        rcases ltW_tri r x with h | h | h
        · exact h
        · exact absurd (by rw [h]) hx
        · exact absurd h hl
      refine srt_cons.2 ⟨fun y hy => ?_, hr, h⟩
      rcases List.mem_cons.1 hy with rfl | hy
      · exact hg
      · exact ltW_trans hg (h1 y hy)

theorem srt_remW {M : List Rw} (h : Srt M) (id : Int) : Srt (remW M id) := by
  refine ⟨h.1.filter _, ?_⟩
  exact List.Nodup.sublist (List.filter_sublist.map _) h.2
theorem mem_remW {M : List Rw} {id : Int} {x : Rw} : x ∈ remW M id ↔ x ∈ M ∧ x.1 ≠ id := by unfold remW; rw [List.mem_filter]; simp

theorem srt_setW {M : List Rw} (h : Srt M) (id tm : Int) : Srt (setW M id tm).1 := by
  unfold setW
  split
  · exact h
  · split
    · exact h
    · exact srt_insW (srt_remW h id) (fun x hx => (mem_remW.1 hx).2)

theorem remW_none {M : List Rw} {id : Int} (h : hasW M id = false) : remW M id = M := by
  unfold remW
  rw [List.filter_eq_self]
  intro x hx
  unfold hasW at h
  rw [List.any_eq_false] at h
  have := h x hx
  simpa using this
theorem length_remW {M : List Rw} (h : Srt M) (id : Int) : (remW M id).length = M.length - (if hasW M id then 1 else 0) := by
  induction M with
  | nil => rfl
  | cons x t ih =>
    obtain ⟨h1, h2, h3⟩ := srt_cons.1 h
    by_cases hx : x.1 = id
    · have hn : hasW t id = false := by
        unfold hasW; rw [List.any_eq_false]; intro y hy; have := h2 y hy; simp; omega
      have e1 : remW (x :: t) id = remW t id := by unfold remW; rw [List.filter_cons_of_neg (by simp [hx])]
      have e2 : hasW (x :: t) id = true := by unfold hasW; simp [hx]
      rw [e1, e2, remW_none hn]; simp
    · have e1 : remW (x :: t) id = x :: remW t id := by unfold remW; rw [List.filter_cons_of_pos (by simp [hx])]
      have e2 : hasW (x :: t) id = hasW t id := by unfold hasW; simp [hx]
      rw [e1, e2, List.length_cons, ih h3, List.length_cons]
      cases hh : hasW t id with
      | false => simp
      | true =>
        have : 0 < t.length := by
          cases t with
          | nil => simp [hasW] at hh
          | cons => simp
        simp; omega
theorem length_setW {M : List Rw} (h : Srt M) (id tm : Int) (hl : M.length ≤ 100) : (setW M id tm).1.length ≤ 100 := by
  unfold setW
  split
  · exact hl
  · split
    · exact hl
    · rename_i hc
      have := (perm_insW (remW M id) (id, tm)).length_eq
      rw [List.length_cons, length_remW h] at this
      simp only
      rw [this]
      cases hh : hasW M id with
      | false =>
        have : ¬ 100 ≤ M.length := fun h100 => hc ⟨hh, h100⟩
        simp; omega
      | true => simp; omega

/-! ### The rows as they lie -/
theorem perm_hasW {L M : List Rw} (h : L.Perm M) (id : Int) : hasW L id = hasW M id := by
  rw [Bool.eq_iff_iff]
  unfold hasW
  simp only [List.any_eq_true, decide_eq_true_iff]
  constructor
  · rintro ⟨x, hx, e⟩; exact ⟨x, h.mem_iff.1 hx, e⟩
  · rintro ⟨x, hx, e⟩; exact ⟨x, h.mem_iff.2 hx, e⟩
theorem perm_remW {L M : List Rw} (h : L.Perm M) (id : Int) : (remW L id).Perm (remW M id) := h.filter _
theorem perm_nodup {L M : List Rw} (h : L.Perm M) (hM : Srt M) : (L.map (·.1)).Nodup := (h.map _).nodup_iff.2 hM.2

/-- The row of an id is turned. -/
theorem perm_set {L : List Rw} (hn : (L.map (·.1)).Nodup) (k : Nat) (hk : k < L.length) (r : Rw) : (L.set k r).Perm (r :: remW L (rw_ L k).1) := by
  induction L generalizing k with
  | nil => simp at hk
  | cons x t ih =>
    rw [List.map_cons, List.nodup_cons] at hn
    cases k with
    | zero =>
      have e1 : rw_ (x :: t) 0 = x := rfl
      have e2 : remW (x :: t) x.1 = t := by
        unfold remW
        rw [List.filter_cons_of_neg (by simp)]
        exact List.filter_eq_self.2 (fun y hy => by
          have : y.1 ≠ x.1 := fun e => hn.1 (e ▸ List.mem_map_of_mem (f := fun z : Rw => z.1) hy)
          simpa using this)
      rw [e1, e2]
      exact List.Perm.refl _
    | succ k =>
      have hk' : k < t.length := by simpa using hk
      have e1 : rw_ (x :: t) (k + 1) = rw_ t k := by simp [rw_]
      have hx : x.1 ≠ (rw_ t k).1 := by
        rw [rw_eq t k hk']
        intro e
        exact hn.1 (e ▸ List.mem_map_of_mem (f := fun z : Rw => z.1) (List.getElem_mem hk'))
      have e2 : remW (x :: t) (rw_ t k).1 = x :: remW t (rw_ t k).1 := by unfold remW; rw [List.filter_cons_of_pos (by simpa using hx)]
      rw [e1, e2, List.set_cons_succ]
      exact (List.Perm.cons x (ih hn.2 k hk')).trans (List.Perm.swap r x _)
/-- .. goes. -/
theorem perm_rem {L L' : List Rw} (hn : (L.map (·.1)).Nodup) (k : Nat) (hk : k < L.length) (h : (rw_ L k :: L').Perm L) : L'.Perm (remW L (rw_ L k).1) := by
  have h1 := perm_set hn k hk (rw_ L k)
  have h2 : L.set k (rw_ L k) = L := by rw [rw_eq L k hk]; exact List.set_getElem_self hk
  rw [h2] at h1
  exact (List.perm_cons (rw_ L k)).1 (h.trans h1)

theorem head_eq {L M : List Rw} {r : Rw} (h : L.Perm (r :: M)) (hp : Hp L L.length) (hs : Srt (r :: M)) : rw_ L 0 = r := by
  obtain ⟨h1, _, _⟩ := srt_cons.1 hs
  have hl : 0 < L.length := by rw [h.length_eq]; simp
  have hr : r ∈ L := h.mem_iff.2 (by simp)
  obtain ⟨k, hk, hrk⟩ := List.getElem_of_mem hr
  have h2 := hp_head hp k hk
  rw [rw_eq L k hk, hrk] at h2
  have h0 : rw_ L 0 ∈ r :: M := by rw [rw_eq L 0 hl]; exact h.mem_iff.1 (List.getElem_mem hl)
  rcases List.mem_cons.1 h0 with h0 | h0
  · exact h0
  · exact leW_antisymm h2 (ltW_le (h1 _ h0))

theorem dueW_srt {M : List Rw} (h : Srt M) (now : Int) : Srt (dueW M now).2 := by
  induction M with
  | nil => exact srt_nil
  | cons r t ih =>
    unfold dueW
    split
    · exact ih (srt_cons.1 h).2.2
    · exact h
theorem dueW_len (M : List Rw) (now : Int) : (dueW M now).1.length + (dueW M now).2.length = M.length := by
  induction M with
  | nil => rfl
  | cons r t ih =>
    unfold dueW
    split
    · simp only [List.length_cons]; omega
    · simp

end Go.Proofs.Ytoiegjfpoamcbaa
