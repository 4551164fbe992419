/- A region that draws its order: a load may be taken first as long as the region's first store has not come up. -/
import Derived.Deep.RegionHeld3
import Derived.WalkKit
namespace Go.Proofs.Ytckonmlcgfbojaa
open Go.RowKit

section
variable {P : Program} {ops : Array Oper} {Q : Exit → Act → World → Prop} {md : Region.Mode} {S : World → Prop} {s : Nat}

/-- Whatever order is picked from here on, S holds behind each operation till s has come up. -/
def anyT (P : Program) (md : Region.Mode) (ops : Array Oper) (Q : Exit → Act → World → Prop) (S : World → Prop) (s : Nat) : Nat → Array Bool → Act → World → Prop
  | 0, l, a, w => Region.ready md ops l = [] ∧ Q .normal a w
  | n + 1, l, a, w => (Region.ready md ops l = [] → Q .normal a w) ∧
    ∀ i ∈ Region.ready md ops l, wpOp P ops Q i (fun a' w' => ((l.setIfInBounds i true).getD s true = false → S w') ∧ anyT P md ops Q S s n (l.setIfInBounds i true) a' w') a w

theorem any_of_T : ∀ (n : Nat) (l : Array Bool) (a : Act) (w : World), anyT P md ops Q S s n l a w → wpAny P md ops Q n l a w
  | 0, _, _, _, h => h
  | n + 1, _, _, _, h => ⟨h.1, fun i hi => wpOp_mono (fun a' w' k => any_of_T n _ a' w' k.2) (h.2 i hi)⟩

/-- Once s has come up nothing more is asked. -/
theorem T_of_any : ∀ (n : Nat) (l : Array Bool) (a : Act) (w : World), l.getD s true = true → wpAny P md ops Q n l a w → anyT P md ops Q S s n l a w
  | 0, _, _, _, _, h => h
  | n + 1, l, _, _, hs, h => ⟨h.1, fun i hi => wpOp_mono (fun a' w' k => by
      have h2 : (l.setIfInBounds i true).getD s true = true := by
        by_cases his : i = s
        · subst his
          rcases Nat.lt_or_ge i l.size with hlt | hge
          · simp [hlt]
          · simp [Array.setIfInBounds, Nat.not_lt.2 hge]
        · rw [getD_set_ne true his]; exact hs
      exact ⟨fun hf => (by rw [h2] at hf; cases hf), T_of_any n _ a' w' h2 k⟩) (h.2 i hi)⟩

theorem anyT_first {i : Nat} {oi os : Oper} {v : Value} (hi : ops[i]? = some oi) (hsel : ∀ (j : Nat) (o : Oper) cs b, ops[j]? = some o → o.op ≠ .select cs b)
    (hQ : ∀ c a w, Q (.panic c) (a.put oi.dst v) w → Q (.panic c) a w) (hos : ops[s]? = some os) (hwait : ∃ e ∈ os.after, Region.binds md e = true ∧ e.on = i) (hne : i ≠ s) :
    ∀ (n : Nat) (l : Array Bool) (a : Act) (w : World),
      (∀ j oj, ops[j]? = some oj → j ≠ i → l.getD j true = false → (∀ e ∈ oj.after, Region.binds md e = true → e.on ≠ i) → oi.apart ops oj = true) →
      i ∈ Region.ready md ops l → l.getD s true = false → YieldsIf P ops S oi v a → S w →
      anyT P md ops Q S s n (l.setIfInBounds i true) (a.put oi.dst v) w → anyT P md ops Q S s (n + 1) l a w := by
  intro n
  induction n with
  | zero =>
    intro l a w _ hr _ hy hS H
    refine ⟨fun h => (by rw [h] at hr; cases hr), fun j hj => ?_⟩
    by_cases hji : j = i
    · subst hji; exact hy.wpOp hi hS ⟨fun _ => hS, H⟩
    · have h1 := ready_mono hj hji
      rw [H.1] at h1
      cases h1
  | succ n ih =>
    intro l a w hfree hr hls hy hS H
    refine ⟨fun h => (by rw [h] at hr; cases hr), fun j hj => ?_⟩
    by_cases hji : j = i
    · subst hji; exact hy.wpOp hi hS ⟨fun _ => hS, H⟩
    have hil := (mem_ready.1 hr).1
    have hno : l.getD i false ≠ true := by
      intro h
      rcases Nat.lt_or_ge i l.size with hlt | hge
      · simp [hlt] at hil h; rw [hil] at h; cases h
      · simp [Array.getElem?_eq_none hge] at h
    obtain ⟨hjl, oj, hoj, hall⟩ := mem_ready.1 hj
    have hjs : j ≠ s := by
      rintro rfl
      rw [hos] at hoj
      injection hoj with hoj
      subst hoj
      obtain ⟨e, he, hb, hon⟩ := hwait
      exact hno (hon ▸ hall e he hb)
    have hnot : ∀ e ∈ oj.after, Region.binds md e = true → e.on ≠ i := fun e he hb hon => hno (hon ▸ hall e he hb)
    have h2 := wpOp_putIf hoj (hfree j oj hoj hji hjl hnot) (fun cs b => hsel i oi cs b hi) (fun cs b => hsel j oj cs b hoj) hQ hy (H.2 j (ready_mono hj hji))
    refine wpOp_mono (fun a' w' k => ?_) h2
    have hc : ((l.setIfInBounds i true).setIfInBounds j true).getD s true = false := by rw [getD_set_ne true hjs, getD_set_ne true hne]; exact hls
    have hSw := k.2.1 hc
    refine ⟨fun _ => hSw, ih (l.setIfInBounds j true) a' w' (fun q oq hq hqi hql hqn => ?_) (ready_mono hr (Ne.symm hji)) (by rw [getD_set_ne true hjs]; exact hls) k.1 hSw ?_⟩
    · refine hfree q oq hq hqi ?_ hqn
      by_cases hjq : j = q
      · subst hjq; exact hjl
      · rw [getD_set_ne true hjq] at hql; exact hql
    · rw [Array.setIfInBounds_comm _ _ hji]; exact k.2.2

/-- Number i is taken first: it waits for nobody, tells v wherever S holds, and s waits for it. -/
theorem anyT_take {i : Nat} {oi os : Oper} {v : Value} {n : Nat} {l : Array Bool} {a : Act} {w : World} (hi : ops[i]? = some oi) (hos : ops[s]? = some os) (hsel : Region.noSelect ops = true)
    (hf : Region.free md ops l i = true) (hr : (Region.ready md ops l).contains i = true) (hls : l.getD s true = false) (hwait : os.after.any (fun e => Region.binds md e && e.on == i) = true) (hne : i ≠ s)
    (hQ : ∀ c a w, Q (.panic c) (a.put oi.dst v) w → Q (.panic c) a w) (hy : YieldsIf P ops S oi v a) (hS : S w)
    (h : anyT P md ops Q S s n (l.setIfInBounds i true) (a.put oi.dst v) w) : anyT P md ops Q S s (n + 1) l a w := by
  refine anyT_first hi (Region.noSelect_spec hsel) hQ hos ?_ hne n l a w (Region.free_spec hi hf) (by simpa using hr) hls hy hS h
  rw [Array.any_eq_true'] at hwait
  obtain ⟨e, he, hh⟩ := hwait
  rw [Bool.and_eq_true] at hh
  exact ⟨e, he, hh.1, by simpa using hh.2⟩

/-- One alone may come up. -/
theorem anyT_one {i : Nat} {oi : Oper} {n : Nat} {l : Array Bool} {a : Act} {w : World} (hr : Region.ready md ops l = [i]) (hi : ops[i]? = some oi) (hg : oi.guard = none)
    (h : Oper.wp P oi a w (fun a' w' => ((l.setIfInBounds i true).getD s true = false → S w') ∧ anyT P md ops Q S s n (l.setIfInBounds i true) a' w') Q) : anyT P md ops Q S s (n + 1) l a w := by
  refine ⟨fun h0 => (by rw [hr] at h0; cases h0), fun j hj => ?_⟩
  rw [hr] at hj
  have : j = i := by simpa using hj
  subst this
  unfold wpOp
  simp only [hi]
  rw [if_pos (by simp [Region.wanted, hg])]
  exact .inl h

/-- Two may come up. -/
theorem anyT_two {i j : Nat} {oi oj : Oper} {n : Nat} {l : Array Bool} {a : Act} {w : World} (hr : Region.ready md ops l = [i, j]) (hi : ops[i]? = some oi) (hj : ops[j]? = some oj) (hgi : oi.guard = none) (hgj : oj.guard = none)
    (h1 : Oper.wp P oi a w (fun a' w' => ((l.setIfInBounds i true).getD s true = false → S w') ∧ anyT P md ops Q S s n (l.setIfInBounds i true) a' w') Q)
    (h2 : Oper.wp P oj a w (fun a' w' => ((l.setIfInBounds j true).getD s true = false → S w') ∧ anyT P md ops Q S s n (l.setIfInBounds j true) a' w') Q) : anyT P md ops Q S s (n + 1) l a w := by
  refine ⟨fun h0 => (by rw [hr] at h0; cases h0), fun k hk => ?_⟩
  rw [hr] at hk
  have : k = i ∨ k = j := by simpa using hk
  rcases this with rfl | rfl
  · unfold wpOp
    simp only [hi]
    rw [if_pos (by simp [Region.wanted, hgi])]
    exact .inl h1
  · unfold wpOp
    simp only [hj]
    rw [if_pos (by simp [Region.wanted, hgj])]
    exact .inl h2

/-- More may be asked from here on. -/
theorem anyT_more {S' : World → Prop} (hS : ∀ w, S' w → S w) : ∀ (n : Nat) (l : Array Bool) (a : Act) (w : World), anyT P md ops Q S' s n l a w → anyT P md ops Q S s n l a w
  | 0, _, _, _, h => h
  | n + 1, _, _, _, h => ⟨h.1, fun i hi => wpOp_mono (fun a' w' k => ⟨fun hl => hS _ (k.1 hl), anyT_more hS n _ a' w' k.2⟩) (h.2 i hi)⟩

theorem anyT_done {n : Nat} {l : Array Bool} {a : Act} {w : World} (hr : Region.ready md ops l = []) (h : Q .normal a w) : anyT P md ops Q S s n l a w := by
  cases n with
  | zero => exact ⟨hr, h⟩
  | succ n => exact ⟨fun _ => h, by rw [hr]; simp⟩

theorem wp_region_T {id : Nat} {a : Act} {w : World} (s : Nat) (S : World → Prop) (hm : P.follows .mixedOrders = true)
    (h : anyT P .any ops Q S s ops.size (Array.replicate ops.size false) a w.drew) : (Code.region id ops true).wp P Q a w :=
  wp_region_any hm (any_of_T _ _ _ _ h)
end

end Go.Proofs.Ytckonmlcgfbojaa
