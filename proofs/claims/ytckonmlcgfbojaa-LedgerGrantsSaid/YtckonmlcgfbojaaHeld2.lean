/- A region that draws its order: a call that turns nothing may be taken first, as a load may. -/
import Derived.Test.YtckonmlcgfbojaaHeld
namespace Go.Proofs.Ytckonmlcgfbojaa
open Go.RowKit

section
variable {P : Program} {ops : Array Oper} {Q : Exit → Act → World → Prop} {md : Region.Mode} {S : World → Prop} {s : Nat}

/-- In state 'a', in every world that meets S, operation 'o' calls a function that answers v and turns nothing. -/
def YieldsX (P : Program) (ops : Array Oper) (S : World → Prop) (o : Oper) (v : Value) (a : Act) : Prop :=
  Region.wanted o (yielded ops a.tmps) = true ∧ ∃ fn args, (∀ w, S w → (execOp a.eval o).run P w = .ok (.enter fn args) w) ∧ ∀ w, S w → Calls P fn args w fun e w' => e = .returned v ∧ w' = w

theorem YieldsX.wpOp {i : Nat} {o : Oper} {v : Value} {a : Act} (hi : ops[i]? = some o) (hy : YieldsX P ops S o v a)
    {K : Act → World → Prop} {w : World} (hS : S w) (h : K (a.put o.dst v) w) : wpOp P ops Q i K a w := by
  unfold Go.wpOp
  simp only [hi]
  obtain ⟨hw, fn, args, h1, h2⟩ := hy
  simp only [hw, if_true, Oper.wp, h1 w hS, Oper.upon]
  refine .inl ((h2 w hS).mono ?_)
  rintro e w' ⟨rfl, rfl⟩
  exact h

theorem YieldsX.of_same {o : Oper} {v : Value} {a a' : Act} (hy : YieldsX P ops S o v a) (he : execOp a'.eval o = execOp a.eval o)
    (hw : Region.wanted o (yielded ops a'.tmps) = Region.wanted o (yielded ops a.tmps)) : YieldsX P ops S o v a' := by
  unfold YieldsX at *
  rw [he, hw]
  exact hy

theorem wpOp_putX {j : Nat} {oi oj : Oper} {v : Value} (hj : ops[j]? = some oj) (hap : oi.apart ops oj = true)
    (hsi : ∀ cs b, oi.op ≠ .select cs b) (hsj : ∀ cs b, oj.op ≠ .select cs b)
    (hQ : ∀ c a w, Q (.panic c) (a.put oi.dst v) w → Q (.panic c) a w) {K : Act → World → Prop} {a : Act} {w : World}
    (hy : YieldsX P ops S oi v a) (h : wpOp P ops Q j K (a.put oi.dst v) w) :
    wpOp P ops Q j (fun a' w' => YieldsX P ops S oi v a' ∧ K (a'.put oi.dst v) w') a w := by
  obtain ⟨h1, h2, h3⟩ := Oper.apart_spec hap
  have keep : ∀ (a : Act), YieldsX P ops S oi v a → ∀ u, YieldsX P ops S oi v (a.put oj.dst u) := fun a hy u =>
    hy.of_same (execOp_put oi hsi a oj.dst u h3) (wanted_put oi a oj.dst u h3)
  have keepD : ∀ d, YieldsX P ops S oi v { a with defers := d :: a.defers } := fun d => hy.of_same rfl rfl
  unfold wpOp at *
  simp only [hj] at *
  rw [wanted_put oj a oi.dst v h1] at h
  split
  · rename_i hw
    simp only [hw, if_true] at h
    rcases h with h | ⟨hasks, hlets⟩
    case inr => exact .inr ⟨by unfold Oper.asks at *; rw [execOp_put oj hsj a oi.dst v h1] at hasks; exact hasks, hlets⟩
    refine .inl ?_
    unfold Oper.wp at *
    rw [execOp_put oj hsj a oi.dst v h1] at h
    generalize (execOp a.eval oj).run P w = r at *
    cases r with
    | ok n w' =>
      cases n <;> simp only [Oper.upon] at h ⊢
      case value u => exact ⟨keep a hy u, by rw [← Act.put_comm a v u h2]; exact h⟩
      case skip => exact ⟨keep a hy _, by rw [← Act.put_comm a v undef h2]; exact h⟩
      case defer d =>
        refine ⟨keep _ (keepD d) _, ?_⟩
        rw [← Act.put_comm _ v undef h2, ← Act.put_defers]
        exact h
      case enter f args =>
        refine Calls.mono h fun e w'' he => ?_
        cases e with
        | returned u => exact ⟨keep a hy u, by rw [← Act.put_comm a v u h2]; exact he⟩
        | panicked c => exact hQ _ _ _ he
        | outgrown => exact he
      case row row args => exact Rows.mono h fun u w'' he => ⟨keep a hy u, by rw [← Act.put_comm a v u h2]; exact he⟩
    | halt x w' =>
      cases x <;> simp only [Oper.upon] at h ⊢
      case panic u => exact hQ _ _ _ h
  · rename_i hw
    simp only [hw] at h
    exact ⟨keep a hy _, by rw [← Act.put_comm a v undef h2]; exact h⟩

theorem anyT_firstX {i : Nat} {oi os : Oper} {v : Value} (hi : ops[i]? = some oi) (hsel : ∀ (j : Nat) (o : Oper) cs b, ops[j]? = some o → o.op ≠ .select cs b)
    (hQ : ∀ c a w, Q (.panic c) (a.put oi.dst v) w → Q (.panic c) a w) (hos : ops[s]? = some os) (hwait : ∃ e ∈ os.after, Region.binds md e = true ∧ e.on = i) (hne : i ≠ s) :
    ∀ (n : Nat) (l : Array Bool) (a : Act) (w : World),
      (∀ j oj, ops[j]? = some oj → j ≠ i → l.getD j true = false → (∀ e ∈ oj.after, Region.binds md e = true → e.on ≠ i) → oi.apart ops oj = true) →
      i ∈ Region.ready md ops l → l.getD s true = false → YieldsX P ops S oi v a → S w →
      anyT P md ops Q S s n (l.setIfInBounds i true) (a.put oi.dst v) w → anyT P md ops Q S s (n + 1) l a w := by
  intro n
  induction n with
  | zero =>
    intro l a w _ hr _ hy hS H
    refine ⟨fun h => (by rw [h] at hr; cases hr), fun j hj => ?_⟩
    by_cases hji : j = i
    · subst hji; exact hy.wpOp hi hS ⟨fun _ => hS, H⟩
    · have h1 := ready_mono hj hji
      rw [H.1] at h1
      cases h1
  | succ n ih =>
    intro l a w hfree hr hls hy hS H
    refine ⟨fun h => (by rw [h] at hr; cases hr), fun j hj => ?_⟩
    by_cases hji : j = i
    · subst hji; exact hy.wpOp hi hS ⟨fun _ => hS, H⟩
    have hil := (mem_ready.1 hr).1
    have hno : l.getD i false ≠ true := by
      intro h
      rcases Nat.lt_or_ge i l.size with hlt | hge
      · simp [hlt] at hil h; rw [hil] at h; cases h
      · simp [Array.getElem?_eq_none hge] at h
    obtain ⟨hjl, oj, hoj, hall⟩ := mem_ready.1 hj
    have hjs : j ≠ s := by
      rintro rfl
      rw [hos] at hoj
      injection hoj with hoj
      subst hoj
      obtain ⟨e, he, hb, hon⟩ := hwait
      exact hno (hon ▸ hall e he hb)
    have hnot : ∀ e ∈ oj.after, Region.binds md e = true → e.on ≠ i := fun e he hb hon => hno (hon ▸ hall e he hb)
    have h2 := wpOp_putX hoj (hfree j oj hoj hji hjl hnot) (fun cs b => hsel i oi cs b hi) (fun cs b => hsel j oj cs b hoj) hQ hy (H.2 j (ready_mono hj hji))
    refine wpOp_mono (fun a' w' k => ?_) h2
    have hc : ((l.setIfInBounds i true).setIfInBounds j true).getD s true = false := by rw [getD_set_ne true hjs, getD_set_ne true hne]; exact hls
    have hSw := k.2.1 hc
    refine ⟨fun _ => hSw, ih (l.setIfInBounds j true) a' w' (fun q oq hq hqi hql hqn => ?_) (ready_mono hr (Ne.symm hji)) (by rw [getD_set_ne true hjs]; exact hls) k.1 hSw ?_⟩
    · refine hfree q oq hq hqi ?_ hqn
      by_cases hjq : j = q
      · subst hjq; exact hjl
      · rw [getD_set_ne true hjq] at hql; exact hql
    · rw [Array.setIfInBounds_comm _ _ hji]; exact k.2.2

/-- A call that turns nothing, taken first. -/
theorem anyT_call {i : Nat} {oi os : Oper} {v : Value} {n : Nat} {l : Array Bool} {a : Act} {w : World} (hi : ops[i]? = some oi) (hos : ops[s]? = some os) (hsel : Region.noSelect ops = true)
    (hf : Region.free md ops l i = true) (hr : (Region.ready md ops l).contains i = true) (hls : l.getD s true = false) (hwait : os.after.any (fun e => Region.binds md e && e.on == i) = true) (hne : i ≠ s)
    (hQ : ∀ c a w, Q (.panic c) (a.put oi.dst v) w → Q (.panic c) a w) (hy : YieldsX P ops S oi v a) (hS : S w)
    (h : anyT P md ops Q S s n (l.setIfInBounds i true) (a.put oi.dst v) w) : anyT P md ops Q S s (n + 1) l a w := by
  refine anyT_firstX hi (Region.noSelect_spec hsel) hQ hos ?_ hne n l a w (Region.free_spec hi hf) (by simpa using hr) hls hy hS h
  rw [Array.any_eq_true'] at hwait
  obtain ⟨e, he, hh⟩ := hwait
  rw [Bool.and_eq_true] at hh
  exact ⟨e, he, hh.1, by simpa using hh.2⟩
theorem anyT_world {n : Nat} {l : Array Bool} {a : Act} {w : World} {F : World → Prop} (hF : F w) (h : ∀ V, F V → anyT P md ops Q S s n l a V) : anyT P md ops Q S s n l a w := h w hF
end

end Go.Proofs.Ytckonmlcgfbojaa
