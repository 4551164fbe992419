/- Plain Lean: what the program computes of vectors is what the document does. -/
import Derived.Test.YtlejcnobicbeoaaVWkH
namespace Go.Proofs.Ytlejcnobicbeoaa

theorem hasL_eq {l : List En} (h : VP l) (d e s : Int) : hasL l d e s = hasV l d e s := by unfold hasL hasV; rw [getL_eq h]
theorem leL_eq {a b : List En} (h : VP b) : leL a b = leV a b := by
  unfold leL leV
  congr 1
  funext x
  rw [getL_eq h]

theorem vp_one {x : En} (h : 1 ≤ x.2.2) : VP [x] := (vp_cons x []).2 ⟨h, by simp, vp_nil⟩
theorem vp_joinS {a b : List En} (ha : VP a) (hb : VP b) : VP (joinS a b) := (joinS_spec b a ha hb).1
theorem get_joinS {a b : List En} (ha : VP a) (hb : VP b) (d e : Int) : getV (joinS a b) d e = max (getV a d e) (getV b d e) := (joinS_spec b a ha hb).2 d e

theorem hasV_false {l : List En} {d e s : Int} (h : hasV l d e s = false) (hs : 1 ≤ s) : getV l d e < s := by
  unfold hasV at h
  simp [hs] at h
  exact h

theorem stepS_eq {l : List En} (h : VP l) (d e s : Int) : stepS l d e s = stepV l d e s := by
  unfold stepS stepV
  by_cases hc : d < 0 ∨ e < 0 ∨ s < 1
  · rw [if_pos hc, if_pos hc]
  · rw [if_neg hc, if_neg hc, hasL_eq h]
    cases hh : hasV l d e s with
    | true => rfl
    | false =>
      have := hasV_false hh (by omega)
      simp only [Bool.false_eq_true, if_false]
      rw [putR_eq h (by simp only; omega)]
      rfl

theorem insS_same {v : List En} {e : En} (h : VP v) (he : 1 ≤ e.2.2) (hg : e.2.2 ≤ getV v e.1 e.2.1) : insS v e = v := by
  obtain ⟨h1, h2, _⟩ := insS_spec v e h he
  refine vp_ext h1 h (fun d p => ?_)
  rw [h2]
  split
  · rename_i hp
    obtain ⟨rfl, rfl⟩ := hp
    omega
  · rfl

theorem joinR_eq {a b : List En} (ha : VP a) (hb : VP b) : joinR a b = joinS a b := by
  induction b generalizing a with
  | nil => rfl
  | cons x t ih =>
    obtain ⟨h1, h2, h3⟩ := (vp_cons x t).1 hb
    have e : joinR1 a x = insS a x := by
      unfold joinR1
      split
      · exact putR_eq ha (by omega)
      · exact (insS_same ha h1 (by omega)).symm
    show joinR (joinR1 a x) t = joinS (insS a x) t
    rw [e]
    exact ih (insS_spec a x ha h1).1 h3

theorem getV_mem {v : List En} (h : VP v) {x : En} (hx : x ∈ v) : getV v x.1 x.2.1 = x.2.2 := by
  induction v with
  | nil => cases hx
  | cons y t ih =>
    obtain ⟨h1, h2, h3⟩ := (vp_cons y t).1 h
    rcases List.mem_cons.1 hx with rfl | hx
    · exact getV_head
    · have := h2 x hx
      rw [getV, if_neg (by unfold ltP at this; omega)]
      exact ih h3 hx
theorem getV_some {v : List En} {d e : Int} (h : getV v d e ≠ 0) : ∃ x ∈ v, x.1 = d ∧ x.2.1 = e ∧ x.2.2 = getV v d e := by
  induction v with
  | nil => exact absurd rfl h
  | cons y t ih =>
    unfold getV at h ⊢
    by_cases hp : y.1 = d ∧ y.2.1 = e
    · exact ⟨y, by simp, hp.1, hp.2, by rw [if_pos hp]⟩
    · rw [if_neg hp] at h ⊢
      obtain ⟨x, hx, r⟩ := ih h
      exact ⟨x, by simp [hx], r⟩

theorem leV_iff {a b : List En} (ha : VP a) (hb : VP b) : leV a b = true ↔ ∀ d e, getV a d e ≤ getV b d e := by
  unfold leV
  simp only [List.all_eq_true, decide_eq_true_iff]
  constructor
  · intro h d e
    by_cases h0 : getV a d e = 0
    · rw [h0]; exact getV_pos hb d e
    · obtain ⟨x, hx, rfl, rfl, hs⟩ := getV_some h0
      rw [← hs]; exact h x hx
  · intro h x hx
    have := h x.1 x.2.1
    rwa [getV_mem ha hx] at this

/-! ### Of -/
/-- The numbers of an entry of these vectors. -/
def Sm (v : List En) : Prop := ∀ x ∈ v, 0 ≤ x.1 ∧ x.1 < 3 ∧ 1 ≤ x.2.1 ∧ x.2.1 < 3 ∧ 1 ≤ x.2.2 ∧ x.2.2 < 6

theorem mem_putR {l : List En} {e x : En} (h : x ∈ putR l e) : x = e ∨ x ∈ l := by
  induction l with
  | nil => simp [putR] at h; exact .inl h
  | cons y t ih =>
    unfold putR at h
    split at h
    · rcases List.mem_cons.1 h with rfl | h
      · exact .inr (by simp)
      · rcases ih h with h | h
        · exact .inl h
        · exact .inr (by simp [h])
    · split at h
      · rcases List.mem_cons.1 h with rfl | h
        · exact .inl rfl
        · exact .inr (by simp [h])
      · rcases List.mem_cons.1 h with rfl | h
        · exact .inl rfl
        · exact .inr h

theorem dot_bd (a : Int) : 0 ≤ dotD a ∧ dotD a < 3 ∧ 1 ≤ dotE a ∧ dotE a < 3 ∧ 1 ≤ dotS a ∧ dotS a < 6 := by
  unfold dotD dotE dotS
  omega

theorem ofStep_ok {v : List En} (h : VP v ∧ Sm v) (a : Int) : VP (ofStep v a) ∧ Sm (ofStep v a) := by
  have hb := dot_bd a
  unfold ofStep
  split
  · rename_i h0
    unfold stepV at h0 ⊢
    rw [if_neg (by omega)] at h0 ⊢
    cases hh : hasV v (dotD a) (dotE a) (dotS a) with
    | true => rw [hh] at h0; simp at h0
    | false =>
      have hg := hasV_false hh hb.2.2.2.2.1
      simp only [Bool.false_eq_true, if_false]
      constructor
      · rw [putR_eq h.1 (by simp only; omega)]
        exact (insS_spec v _ h.1 (by simp only; omega)).1
      · intro x hx
        rcases mem_putR hx with rfl | hx
        · exact hb
        · exact h.2 x hx
  · exact h

theorem ofS_ok (ns : List Int) : VP (ofS ns) ∧ Sm (ofS ns) := by
  unfold ofS
  generalize ns.take 12 = l
  have : ∀ (l : List Int) (v : List En), VP v ∧ Sm v → VP (l.foldl ofStep v) ∧ Sm (l.foldl ofStep v) := by
    intro l
    induction l with
    | nil => intro v h; exact h
    | cons a l ih => intro v h; exact ih _ (ofStep_ok h a)
  exact this l [] ⟨vp_nil, by intro x hx; cases hx⟩

theorem Sm.get {v : List En} (h : Sm v) (d e : Int) : getV v d e < 6 ∧ (¬ (0 ≤ d ∧ d < 3 ∧ 1 ≤ e ∧ e < 3) → getV v d e = 0) := by
  by_cases h0 : getV v d e = 0
  · exact ⟨by omega, fun _ => h0⟩
  · obtain ⟨x, hx, rfl, rfl, hs⟩ := getV_some h0
    have := h x hx
    exact ⟨by omega, fun hh => by omega⟩

/-! ### laws -/
theorem joinS_comm {a b : List En} (ha : VP a) (hb : VP b) : joinS a b = joinS b a :=
  vp_ext (vp_joinS ha hb) (vp_joinS hb ha) fun d e => by rw [get_joinS ha hb, get_joinS hb ha]; omega
theorem joinS_assoc {a b c : List En} (ha : VP a) (hb : VP b) (hc : VP c) : joinS (joinS a b) c = joinS a (joinS b c) :=
  vp_ext (vp_joinS (vp_joinS ha hb) hc) (vp_joinS ha (vp_joinS hb hc)) fun d e => by rw [get_joinS (vp_joinS ha hb) hc, get_joinS ha hb, get_joinS ha (vp_joinS hb hc), get_joinS hb hc]; omega
theorem joinS_self {a : List En} (ha : VP a) : joinS a a = a :=
  vp_ext (vp_joinS ha ha) ha fun d e => by rw [get_joinS ha ha]; omega
theorem le_join_left {a b : List En} (ha : VP a) (hb : VP b) : leV a (joinS a b) = true := (leV_iff ha (vp_joinS ha hb)).2 fun d e => by rw [get_joinS ha hb]; omega
theorem le_join_right {a b : List En} (ha : VP a) (hb : VP b) : leV b (joinS a b) = true := (leV_iff hb (vp_joinS ha hb)).2 fun d e => by rw [get_joinS ha hb]; omega
theorem join_le {a b c : List En} (ha : VP a) (hb : VP b) (hc : VP c) : leV (joinS a b) c = (leV a c && leV b c) := by
  rw [Bool.eq_iff_iff, Bool.and_eq_true, leV_iff (vp_joinS ha hb) hc, leV_iff ha hc, leV_iff hb hc]
  constructor
  · intro h
    exact ⟨fun d e => by have := h d e; rw [get_joinS ha hb] at this; omega, fun d e => by have := h d e; rw [get_joinS ha hb] at this; omega⟩
  · rintro ⟨h1, h2⟩ d e
    have := h1 d e
    have := h2 d e
    rw [get_joinS ha hb]; omega
theorem le_le {a b : List En} (ha : VP a) (hb : VP b) : (leV a b && leV b a) = decide (a = b) := by
  rw [Bool.eq_iff_iff, Bool.and_eq_true, leV_iff ha hb, leV_iff hb ha, decide_eq_true_iff]
  constructor
  · rintro ⟨h1, h2⟩
    exact vp_ext ha hb fun d e => by have := h1 d e; have := h2 d e; omega
  · rintro rfl
    exact ⟨fun _ _ => Int.le_refl _, fun _ _ => Int.le_refl _⟩

end Go.Proofs.Ytlejcnobicbeoaa
