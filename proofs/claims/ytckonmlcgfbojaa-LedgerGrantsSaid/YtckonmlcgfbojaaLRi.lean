/- Plain: the book of LedgerRights. -/
import Derived.Test.YtckonmlcgfbojaaLLw
import Derived.Test.YtckonmlcgfbojaaLSp
import Derived.Test.YtckonmlcgfbojaaLTo
namespace Go.Proofs.Ytckonmlcgfbojaa
open Go.RowKit

def rBk (left : Int) (ls : List Ls) : Bk := ⟨[⟨⟨#[97]⟩, 0, 0, 20, 10, left, 10⟩, ⟨⟨#[98]⟩, 1, -30, 30, 0, 30, 30⟩], [(0, 40)], ls, []⟩
def rLs (d : Nat) (n u : Int) : Ls := ⟨d, 1, 50, -1, [⟨⟨#[97]⟩, n, 0, u, 0⟩], [], []⟩
structure RI (d : Nat) (left gr : Int) (ls : List Ls) : Prop where
  l0 : 0 ≤ left
  sum : left + gr = 10
  g0 : 0 ≤ gr
  len : ls.length ≤ d
  each : ∀ l ∈ ls, l.dev < d ∧ (∃ n u, l.sl = [⟨⟨#[97]⟩, n, 0, u, 0⟩] ∧ 0 ≤ u ∧ u ≤ n ∧ n ≤ 7) ∧ l.ids = [] ∧ l.used = []
theorem RI.start : RI 0 10 0 [] := ⟨by decide, by decide, by decide, by decide, fun l hl => by simp at hl⟩
theorem RI.skip {d : Nat} {left gr : Int} {ls : List Ls} (h : RI d left gr ls) : RI (d + 1) left gr ls :=
  ⟨h.l0, h.sum, h.g0, Nat.le_succ_of_le h.len, fun l hl => ⟨by have := (h.each l hl).1; omega, (h.each l hl).2⟩⟩
theorem RI.step {d : Nat} {left gr n u : Int} {ls : List Ls} (h : RI d left gr ls) (h0 : 0 ≤ u) (h1 : u ≤ n) (h2 : n ≤ 7) (h3 : n ≤ left) : RI (d + 1) (left - n) (gr + n) (ls ++ [rLs d n u]) := by
  have := h.l0
  have := h.sum
  have := h.g0
  refine ⟨by omega, by omega, by omega, by simp; exact h.len, fun l hl => ?_⟩
  rcases List.mem_append.1 hl with hl | hl
  · exact ⟨by have := (h.each l hl).1; omega, (h.each l hl).2⟩
  · simp at hl
    subst hl
    exact ⟨by simp only [rLs]; omega, ⟨n, u, rfl, h0, h1, h2⟩, rfl, rfl⟩
theorem RI.any {d : Nat} {left gr : Int} {ls : List Ls} (h : RI d left gr ls) : ls.any (fun l => decide (l.dev = d)) = false := by
  rw [List.any_eq_false]
  intro l hl
  have := (h.each l hl).1
  simp
  omega
theorem r_arg {d : Nat} (hd : d < 6) {n : Int} : argOk d 1 50 [(⟨⟨#[97]⟩, n, 0, 0⟩ : Wn)].length = true := by
  unfold argOk
  simp
  omega
theorem r_ix {left : Int} {ls : List Ls} : ctIx (rBk left ls).cs ⟨#[97]⟩ = 0 := by
  show idxS _ (_ :: _) = 0
  rw [idxS, if_pos (decide_eq_true rfl)]
theorem r_wnCt {left n : Int} {ls : List Ls} : wnCt (rBk left ls) ⟨⟨#[97]⟩, n, 0, 0⟩ = ⟨⟨#[97]⟩, 0, 0, 20, 10, left, 10⟩ := by
  unfold wnCt
  rw [show (⟨⟨#[97]⟩, n, 0, 0⟩ : Wn).key = ⟨#[97]⟩ from rfl, r_ix]
  rfl
theorem r_wnB {n : Int} (h0 : 0 ≤ n) (h7 : n ≤ 7) : wnB ⟨⟨#[97]⟩, n, 0, 0⟩ = true := by
  unfold wnB
  simp
  omega
theorem r_emp : emp ⟨#[97]⟩ = false := by decide +kernel
theorem r_grant_no {d : Nat} {left gr n : Int} {ls : List Ls} (h : RI d left gr ls) (hd : d < 6) (h0 : 0 ≤ n) (h7 : n ≤ 7) (hn : ¬ n ≤ left) : grantS (rBk left ls) d 1 50 [⟨⟨#[97]⟩, n, 0, 0⟩] = (rBk left ls, zLs, 14) := by
  have hE : wantE (rBk left ls) ⟨⟨#[97]⟩, n, 0, 0⟩ = 14 := by
    have hC := wantC_few (b := rBk left ls) (w := ⟨⟨#[97]⟩, n, 0, 0⟩) (r_wnB h0 h7) (by rw [show (⟨⟨#[97]⟩, n, 0, 0⟩ : Wn).key = ⟨#[97]⟩ from rfl, r_ix]; decide) r_emp (.inl (by rw [r_wnCt]; simp only; omega))
    unfold wantE
    rw [hC]
    simp
  refine grantS_err (r_arg hd) h.any ?_ (by decide)
  rw [grantGo_err (by simp) (by rw [hE]; decide), hE]
theorem r_grant_yes {d : Nat} {left gr n : Int} {ls : List Ls} (h : RI d left gr ls) (hd : d < 6) (h0 : 0 ≤ n) (h7 : n ≤ 7) (hn : n ≤ left) : grantS (rBk left ls) d 1 50 [⟨⟨#[97]⟩, n, 0, 0⟩] = (rBk (left - n) (ls ++ [rLs d n 0]), rLs d n 0, 0) := by
  have hC := wantC_ok_k (b := rBk left ls) (w := ⟨⟨#[97]⟩, n, 0, 0⟩) (r_wnB h0 h7) (by rw [show (⟨⟨#[97]⟩, n, 0, 0⟩ : Wn).key = ⟨#[97]⟩ from rfl, r_ix]; decide) r_emp (by rw [r_wnCt]; simp only; omega) (by rw [r_wnCt]; show ¬ (10 : Int) < 0; decide)
  have hE : wantE (rBk left ls) ⟨⟨#[97]⟩, n, 0, 0⟩ = 0 := by
    unfold wantE
    rw [hC]
    simp [rBk, lenR]
  have hW : wantB (rBk left ls) ⟨⟨#[97]⟩, n, 0, 0⟩ = rBk (left - n) ls := by
    unfold wantB
    rw [r_wnCt, show (⟨⟨#[97]⟩, n, 0, 0⟩ : Wn).key = ⟨#[97]⟩ from rfl, r_ix, if_neg (by rw [r_emp]; decide)]
    simp only [rBk, takeS, Int.toNat_zero, List.set_cons_zero, Int.sub_zero]
    rfl
  have hL : wantL (rBk left ls) (newL d 1 50) ⟨⟨#[97]⟩, n, 0, 0⟩ = rLs d n 0 := by
    unfold wantL
    rw [show (⟨⟨#[97]⟩, n, 0, 0⟩ : Wn).key = ⟨#[97]⟩ from rfl, if_neg (by rw [r_emp]; decide)]
    rfl
  have hG : grantGo (rBk left ls) (newL d 1 50) [] [⟨⟨#[97]⟩, n, 0, 0⟩] = (rBk (left - n) ls, rLs d n 0, 0) := by
    rw [grantGo_ok (by simp) hE, hW, hL]
    rfl
  rw [grantS_ok (r_arg hd) h.any hG]
  have hk : insK (rLs d n 0).dev (rBk (left - n) ls).ls = ls.length := insK_at (Nat.le_refl _) (fun j hj _ => (h.each _ (List.getElem_mem hj)).1) (fun hh => absurd hh (Nat.lt_irrefl _))
  unfold insL
  rw [hk]
  simp [rBk]
theorem r_at {d : Nat} {left gr n : Int} {ls : List Ls} (h : RI d left gr ls) : atIx (ls ++ [rLs d n 0]) d 1 = ls.length := by
  refine idxS_at ls.length (by simp) (fun j hj => ?_) ?_
  · rw [List.getElem_append_left hj]
    have := (h.each _ (List.getElem_mem hj)).1
    rw [Bool.and_eq_false_iff]
    left
    simp
    omega
  · simp [rLs]
theorem r_put {d : Nat} {left gr n u lf : Int} {ls : List Ls} (h : RI d left gr ls) : putS (rBk lf (ls ++ [rLs d n 0])) (rLs d n u) = (rBk lf (ls ++ [rLs d n u]), 0) := by
  unfold putS
  have e : atIx (rBk lf (ls ++ [rLs d n 0])).ls (rLs d n u).dev (rLs d n u).epoch = ls.length := r_at h
  rw [e, if_pos (by omega)]
  simp [rBk]
theorem r_spend_no {d : Nat} {n u s : Int} (h : ¬ u + s ≤ n) : spendS (rLs d n u) 4 ⟨#[97]⟩ s = (rLs d n u, 14) :=
  spendC_few (k := 0) (by simp [rLs]) (by show idxS _ (_ :: _) = _; rw [idxS, if_pos (decide_eq_true rfl)]; rfl) (.inl (by simp [rLs]; omega))
theorem r_spend_yes {d : Nat} {n u s : Int} (h0 : 0 < s) (h : u + s ≤ n) : spendS (rLs d n u) 4 ⟨#[97]⟩ s = (rLs d n (u + s), 0) := by
  rw [spendC_ok (k := 0) (by simp [rLs]) (by show idxS _ (_ :: _) = _; rw [idxS, if_pos (decide_eq_true rfl)]; rfl) (by simp [rLs]; omega) (by simp [rLs]; omega)]
  have e1 : max s 0 = s := by omega
  have e2 : max (-s) 0 = 0 := by omega
  simp [rLs, e1, e2]
theorem r_spB {d : Nat} {n u s : Int} (h0 : 0 ≤ u) (h1 : u ≤ n) (h2 : n ≤ 7) (hs : 0 ≤ s ∧ s ≤ 100) : SpB (rLs d n u) s :=
  ⟨by simp [rLs], by simp [rLs], by simp [rLs], by omega, fun x hx => by simp [rLs] at hx; subst hx; simp only; omega, by simp [rLs]⟩
theorem r_lsB {d : Nat} {n u : Int} : LsB (rLs d n u) := ⟨by simp [rLs], by simp [rLs], by simp [rLs]⟩
theorem RI.grB {d : Nat} {left gr : Int} {ls : List Ls} (h : RI d left gr ls) (hd : d ≤ 6) : GrB (rBk left ls) := by
  have := h.len
  have := h.l0
  have := h.sum
  have := h.g0
  refine ⟨by simp [rBk], by simp [rBk], by simp only [rBk]; omega, by simp [rBk], fun l hl => ?_, small_one 0 40 (by decide) (by decide) (by decide), fun c hc => ?_⟩
  · obtain ⟨_, ⟨n, u, e1, _⟩, e2, e3⟩ := h.each l hl
    rw [e1, e2, e3]
    exact ⟨by simp, by simp, by simp⟩
  · simp only [rBk, List.mem_cons, List.not_mem_nil, or_false] at hc
    rcases hc with rfl | rfl
    · simp only; omega
    · decide
theorem leased_small {ls : List Ls} (h : ∀ l ∈ ls, ∃ n u : Int, l.sl = [⟨⟨#[97]⟩, n, 0, u, 0⟩] ∧ 0 ≤ u ∧ u ≤ n ∧ n ≤ 7) (key : ByteArray) : leasedU key ls ≤ 7 * ls.length ∧ leasedD key ls ≤ 7 * ls.length := by
  induction ls with
  | nil => simp [leasedU, leasedD]
  | cons l ls ih =>
    obtain ⟨i1, i2⟩ := ih (fun x hx => h x (by simp [hx]))
    obtain ⟨n, u, e, h0, h1, h2⟩ := h l (by simp)
    have a1 : leftU key l.sl ≤ 7 := by rw [e]; simp only [leftU]; split <;> omega
    have a2 : leftD key l.sl ≤ 7 := by rw [e]; simp only [leftD]; split <;> omega
    simp only [leasedU, leasedD, List.length_cons]
    omega
theorem RI.totB {d : Nat} {left gr : Int} {ls : List Ls} (h : RI d left gr ls) (hd : d ≤ 6) (key : ByteArray) : TotB (rBk left ls) key := by
  have h1 := h.len
  have h2 := h.l0
  have h3 := h.sum
  have h4 := h.g0
  obtain ⟨s1, s2⟩ := leased_small (fun l hl => (h.each l hl).2.1) key
  refine ⟨fun l hl => ?_, by show leasedU key ls ≤ _; omega, by show leasedD key ls ≤ _; omega, fun c hc => ?_⟩
  · obtain ⟨_, ⟨n, u, e1, _⟩, _⟩ := h.each l hl
    intro s hs
    rw [e1] at hs
    simp at hs
    subst hs
    simp only
    omega
  · simp only [rBk, List.mem_cons, List.not_mem_nil, or_false] at hc
    rcases hc with rfl | rfl
    · simp only; omega
    · decide
theorem r_tot {left : Int} {ls : List Ls} : totS (rBk left ls) ⟨#[97]⟩ = [left, leasedU ⟨#[97]⟩ ls, 20 - 10 - left - leasedU ⟨#[97]⟩ ls, 10, leasedD ⟨#[97]⟩ ls, 10 - 0 - 10 - leasedD ⟨#[97]⟩ ls] := by
  unfold totS
  rw [r_ix, if_neg (by decide)]
  rfl

end Go.Proofs.Ytckonmlcgfbojaa
