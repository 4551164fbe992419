/- Plain Lean: vectors. -/
import Derived.Test.YtlejcnobicbeoaaLib
namespace Go.Proofs.Ytlejcnobicbeoaa

/-- An entry: device, epoch, number. -/
abbrev En := Int × Int × Int
def ltP (a b : En) : Prop := a.1 < b.1 ∨ (a.1 = b.1 ∧ a.2.1 < b.2.1)
def eqP (a b : En) : Prop := a.1 = b.1 ∧ a.2.1 = b.2.1
instance (a b : En) : Decidable (ltP a b) := by unfold ltP; exact inferInstance
instance (a b : En) : Decidable (eqP a b) := by unfold eqP; exact inferInstance

theorem ltP_trans {a b c : En} (h : ltP a b) (k : ltP b c) : ltP a c := by unfold ltP at *; omega
theorem ltP_not_eq {a b : En} (h : ltP a b) : ¬ eqP a b := by unfold ltP at h; unfold eqP; omega
theorem ltP_asymm {a b : En} (h : ltP a b) : ¬ ltP b a := by unfold ltP at *; omega
theorem ltP_tri (a b : En) (h1 : ¬ ltP a b) (h2 : ¬ eqP a b) : ltP b a := by unfold ltP eqP at *; omega

/-- A vector. -/
def VP (v : List En) : Prop := (∀ x ∈ v, 1 ≤ x.2.2) ∧ v.Pairwise ltP
theorem vp_nil : VP [] := ⟨by simp, by simp⟩
theorem vp_cons (x : En) (t : List En) : VP (x :: t) ↔ 1 ≤ x.2.2 ∧ (∀ y ∈ t, ltP x y) ∧ VP t := by
  unfold VP
  simp only [List.mem_cons, forall_eq_or_imp, List.pairwise_cons]
  constructor
  · rintro ⟨⟨a, b⟩, c, d⟩; exact ⟨a, c, b, d⟩
  · rintro ⟨a, c, b, d⟩; exact ⟨⟨a, b⟩, c, d⟩

/-- The number of a pair. -/
def getV : List En → Int → Int → Int
  | [], _, _ => 0
  | x :: t, d, e => if x.1 = d ∧ x.2.1 = e then x.2.2 else getV t d e
/-- .. as the program finds it. -/
def getL : List En → Int → Int → Int
  | [], _, _ => 0
  | x :: t, d, e => if ltP x (d, e, 0) then getL t d e else if eqP x (d, e, 0) then x.2.2 else 0

theorem getV_none (v : List En) (d e : Int) (h : ∀ x ∈ v, ¬ (x.1 = d ∧ x.2.1 = e)) : getV v d e = 0 := by
  induction v with
  | nil => rfl
  | cons x t ih => rw [getV, if_neg (h x (by simp)), ih (fun y hy => h y (by simp [hy]))]

theorem getL_eq {v : List En} (h : VP v) (d e : Int) : getL v d e = getV v d e := by
  induction v with
  | nil => rfl
  | cons x t ih =>
    obtain ⟨h1, h2, h3⟩ := (vp_cons x t).1 h
    unfold getL getV
    by_cases hl : ltP x (d, e, 0)
    · have hn : ¬ (x.1 = d ∧ x.2.1 = e) := by unfold ltP at hl; simp only at hl; omega
      rw [if_pos hl, if_neg hn, ih h3]
    · by_cases he : eqP x (d, e, 0)
      · have hy : x.1 = d ∧ x.2.1 = e := he
        rw [if_neg hl, if_pos he, if_pos hy]
      · have hn : ¬ (x.1 = d ∧ x.2.1 = e) := he
        rw [if_neg hl, if_neg he, if_neg hn]
        have hg := ltP_tri x _ hl he
        exact (getV_none t d e (fun y hy => by
          have := ltP_trans hg (h2 y hy)
          unfold ltP at this
          simp only at this
          omega)).symm

theorem getV_pos {v : List En} (h : VP v) (d e : Int) : 0 ≤ getV v d e := by
  induction v with
  | nil => exact Int.le_refl _
  | cons x t ih =>
    obtain ⟨h1, h2, h3⟩ := (vp_cons x t).1 h
    unfold getV
    split
    · omega
    · exact ih h3

theorem getV_head {x : En} {t : List En} : getV (x :: t) x.1 x.2.1 = x.2.2 := by simp [getV]
theorem getV_tail_zero {x : En} {t : List En} (h : VP (x :: t)) (d e : Int) (hp : ¬ ltP x (d, e, 0)) : getV t d e = 0 :=
  getV_none t d e (fun y hy => by
    have := ((vp_cons x t).1 h).2.1 y hy
    unfold ltP at *
    simp only at hp
    omega)

/-- A vector is its numbers. -/
theorem vp_ext {a b : List En} (ha : VP a) (hb : VP b) (h : ∀ d e, getV a d e = getV b d e) : a = b := by
  induction a generalizing b with
  | nil =>
    cases b with
    | nil => rfl
    | cons y b =>
      have h1 := h y.1 y.2.1
      rw [getV_head] at h1
      have := ((vp_cons y b).1 hb).1
      simp only [getV] at h1; omega
  | cons x a ih =>
    cases b with
    | nil =>
      have h1 := h x.1 x.2.1
      rw [getV_head] at h1
      have := ((vp_cons x a).1 ha).1
      simp only [getV] at h1; omega
    | cons y b =>
      obtain ⟨a1, a2, a3⟩ := (vp_cons x a).1 ha
      obtain ⟨b1, b2, b3⟩ := (vp_cons y b).1 hb
      have hx := h x.1 x.2.1
      have hy := h y.1 y.2.1
      rw [getV_head] at hx hy
      have hxy : eqP x y := by
        by_cases hl : ltP x y
        · exfalso
          have hz : getV (y :: b) x.1 x.2.1 = 0 := by
            unfold getV
            rw [if_neg (by unfold ltP at hl; omega)]
            exact getV_tail_zero hb _ _ (by unfold ltP at *; simp only; omega)
          omega
        · by_cases he : eqP x y
          · exact he
          · exfalso
            have hg := ltP_tri x y hl he
            have hz : getV (x :: a) y.1 y.2.1 = 0 := by
              unfold getV
              rw [if_neg (by unfold ltP at hg; omega)]
              exact getV_tail_zero ha _ _ (by unfold ltP at *; simp only; omega)
            omega
      have hs : x.2.2 = y.2.2 := by
        have e : getV (y :: b) x.1 x.2.1 = y.2.2 := by rw [getV, if_pos ⟨hxy.1.symm, hxy.2.symm⟩]
        omega
      have e : x = y := by
        obtain ⟨x1, x2, x3⟩ := x
        obtain ⟨y1, y2, y3⟩ := y
        obtain ⟨e1, e2⟩ := hxy
        simp only at e1 e2 hs
        subst e1 e2 hs; rfl
      subst e
      congr 1
      refine ih a3 b3 (fun d e => ?_)
      have hde := h d e
      unfold getV at hde
      by_cases hp : x.1 = d ∧ x.2.1 = e
      · rw [getV_tail_zero ha d e (by unfold ltP; simp only; omega), getV_tail_zero hb d e (by unfold ltP; simp only; omega)]
      · rw [if_neg hp, if_neg hp] at hde; exact hde

/-! ### laying an entry in -/
def insS : List En → En → List En
  | [], e => [e]
  | x :: t, e => if ltP x e then x :: insS t e else if eqP x e then (x.1, x.2.1, max x.2.2 e.2.2) :: t else e :: x :: t
def putR : List En → En → List En
  | [], e => [e]
  | x :: t, e => if ltP x e then x :: putR t e else if ¬ ltP e x then e :: t else e :: x :: t

theorem insS_spec (v : List En) (e : En) (h : VP v) (he : 1 ≤ e.2.2) :
    VP (insS v e) ∧ (∀ d p, getV (insS v e) d p = if e.1 = d ∧ e.2.1 = p then max (getV v d p) e.2.2 else getV v d p) ∧ (∀ y, ltP y e → (∀ x ∈ v, ltP y x) → ∀ x ∈ insS v e, ltP y x) := by
  induction v with
  | nil =>
    refine ⟨(vp_cons e []).2 ⟨he, by simp, vp_nil⟩, fun d p => ?_, fun y hy _ x hx => ?_⟩
    · simp only [insS, getV]
      split
      · omega
      · rfl
    · simp [insS] at hx; subst hx; exact hy
  | cons x t ih =>
    obtain ⟨h1, h2, h3⟩ := (vp_cons x t).1 h
    obtain ⟨i1, i2, i3⟩ := ih h3
    unfold insS
    by_cases hl : ltP x e
    · rw [if_pos hl]
      refine ⟨(vp_cons x _).2 ⟨h1, i3 x hl h2, i1⟩, fun d p => ?_, fun y hy hv z hz => ?_⟩
      · simp only [getV]
        rw [i2]
        by_cases hp : x.1 = d ∧ x.2.1 = p
        · have : ¬ (e.1 = d ∧ e.2.1 = p) := by unfold ltP at hl; omega
          rw [if_pos hp, if_neg this, if_pos hp]
        · rw [if_neg hp, if_neg hp]
      · simp only [List.mem_cons] at hz
        rcases hz with rfl | hz
        · exact hv z (by simp)
        · exact i3 y hy (fun w hw => hv w (by simp [hw])) z hz
    · rw [if_neg hl]
      by_cases hq : eqP x e
      · rw [if_pos hq]
        obtain ⟨q1, q2⟩ := hq
        refine ⟨(vp_cons _ _).2 ⟨by simp only; omega, fun y hy => ?_, h3⟩, fun d p => ?_, fun y hy hv z hz => ?_⟩
        · have := h2 y hy; unfold ltP at *; exact this
        · simp only [getV]
          by_cases hp : x.1 = d ∧ x.2.1 = p
          · rw [if_pos hp, if_pos (by omega), if_pos hp]
          · rw [if_neg hp, if_neg (by omega), if_neg hp]
        · simp only [List.mem_cons] at hz
          rcases hz with rfl | hz
          · have := hv x (by simp); unfold ltP at *; exact this
          · exact hv z (by simp [hz])
      · rw [if_neg hq]
        have hg := ltP_tri x e hl hq
        refine ⟨(vp_cons e _).2 ⟨he, fun y hy => ?_, h⟩, fun d p => ?_, fun y hy hv z hz => ?_⟩
        · simp only [List.mem_cons] at hy
          rcases hy with rfl | hy
          · exact hg
          · exact ltP_trans hg (h2 y hy)
        · by_cases hp : e.1 = d ∧ e.2.1 = p
          · rw [getV, if_pos hp, if_pos hp]
            have : getV (x :: t) d p = 0 := by
              unfold getV
              rw [if_neg (by unfold ltP at hg; omega)]
              exact getV_tail_zero h d p (by unfold ltP at *; simp only; omega)
            omega
          · rw [getV, if_neg hp, if_neg hp]
        · simp only [List.mem_cons] at hz
          rcases hz with rfl | hz
          · exact hy
          · exact hv z (by simpa using hz)

theorem putR_eq {v : List En} {e : En} (h : VP v) (hg : getV v e.1 e.2.1 ≤ e.2.2) : putR v e = insS v e := by
  induction v with
  | nil => rfl
  | cons x t ih =>
    obtain ⟨h1, h2, h3⟩ := (vp_cons x t).1 h
    unfold putR insS
    by_cases hl : ltP x e
    · have : getV t e.1 e.2.1 ≤ e.2.2 := by
        unfold getV at hg
        rwa [if_neg (by unfold ltP at hl; omega)] at hg
      rw [if_pos hl, if_pos hl, ih h3 this]
    · rw [if_neg hl, if_neg hl]
      by_cases hq : eqP x e
      · have hn : ¬ ltP e x := by unfold ltP eqP at *; omega
        rw [if_pos hn]
        try rw [if_pos hq]
        unfold getV at hg
        rw [if_pos (show x.1 = e.1 ∧ x.2.1 = e.2.1 from hq)] at hg
        obtain ⟨e1, e2, e3⟩ := e
        obtain ⟨q1, q2⟩ := hq
        simp only at q1 q2 hg ⊢
        rw [← q1, ← q2, show max x.2.2 e3 = e3 from by omega]
      · rw [if_neg (by have := ltP_tri x e hl hq; simpa using this), if_neg hq]

def joinS (a b : List En) : List En := b.foldl insS a

theorem joinS_spec (b : List En) : ∀ a, VP a → VP b → VP (joinS a b) ∧ ∀ d e, getV (joinS a b) d e = max (getV a d e) (getV b d e) := by
  induction b with
  | nil => intro a ha _; exact ⟨ha, fun d e => by have := getV_pos ha d e; simp only [joinS, List.foldl_nil, getV]; omega⟩
  | cons x t ih =>
    intro a ha hb
    obtain ⟨h1, h2, h3⟩ := (vp_cons x t).1 hb
    obtain ⟨i1, i2, _⟩ := insS_spec a x ha h1
    obtain ⟨j1, j2⟩ := ih (insS a x) i1 h3
    refine ⟨j1, fun d e => ?_⟩
    show getV (joinS (insS a x) t) d e = _
    rw [j2, i2]
    simp only [getV]
    by_cases hp : x.1 = d ∧ x.2.1 = e
    · rw [if_pos hp, if_pos hp, getV_tail_zero hb d e (by unfold ltP; simp only; omega)]
      have := getV_pos ha d e
      omega
    · rw [if_neg hp, if_neg hp]

end Go.Proofs.Ytlejcnobicbeoaa
