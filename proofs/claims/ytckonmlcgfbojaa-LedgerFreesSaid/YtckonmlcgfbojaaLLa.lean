/- The walks of within, known. -/
import Derived.Test.YtckonmlcgfbojaaLSh
import Derived.Test.YtckonmlcgfbojaaLNa
namespace Go.Proofs.Ytckonmlcgfbojaa
open Go.RowKit

set_option maxHeartbeats 400000 in
theorem wi_any (a n : Int) (w : World) (hn : 0 < n) (hn2 : n ≤ 4611686018427387904) :
    Calls Try.prog 11 #[.int .i64 a, .int .i64 n] w fun e w' => e = .returned (.int .i64 (a % n)) ∧ w = w' := by
  have h2 := Int.emod_nonneg a (show n ≠ 0 by omega)
  have h3 := Int.emod_lt_of_pos a hn
  by_cases h : 0 ≤ a
  · go_enter Try.func11, Try.ntmps11
    go_wp2
    go_ret
    exact ⟨rfl, rfl⟩
  · have h4 := Lib.hid (tmod_wrap a n hn (by omega))
    have h5 : a.tmod n ≤ 0 := by rw [← Int.neg_neg a, Int.neg_tmod]; have := Int.tmod_nonneg n (show 0 ≤ -a by omega); omega
    have h6 : -n < a.tmod n := by rw [← Int.neg_neg a, Int.neg_tmod]; have := Int.tmod_lt_of_pos (-a) hn; omega
    go_enter Try.func11, Try.ntmps11
    go_wp2
    all_goals go_ret
    all_goals refine ⟨ret_int ?_, rfl⟩
    · rw [← h4.out, if_pos (by assumption)]
    · rw [← h4.out, if_neg (by omega)]
theorem wi_still (a n : Int) (w : World) (hn : 0 < n) (hn2 : n ≤ 4611686018427387904) :
    Calls Try.prog 11 #[.int .i64 a, .int .i64 n] w fun e w' => e = .returned (.int .i64 (a % n)) ∧ w' = w :=
  (wi_any a n w hn hn2).mono fun _ _ ⟨h1, h2⟩ => ⟨h1, h2.symm⟩

theorem new_any (v : Value) (l : List Ct) (ids : Int) (w : World) (h : SlCt w v l) (hkey : ∀ c ∈ l, c.key.size ≤ maxLen) :
    Calls Try.prog 12 #[v, .int .i64 ids] w (RetNew w (newS l ids)) := by
  by_cases h4 : 4 < l.length
  · exact new_many v l ids w h h4
  · exact new_few v l ids w h (by omega) hkey
theorem rnew_any (v : Value) (l : List Ct) (ids : Int) (w : World) (h : SlCt w v l) (hkey : ∀ c ∈ l, c.key.size ≤ maxLen) :
    Calls Try.prog 13 #[v, .int .i64 ids] w (RetNew w (newS l ids)) := by
  by_cases h4 : 4 < l.length
  · exact rnew_many v l ids w h h4
  · exact rnew_few v l ids w h (by omega) hkey

/-- The chapter's example. -/
def kCt : Ct := ⟨⟨#[120]⟩, 0, 0, 10, 4, 0, 0⟩
def kBk : Bk := ⟨[⟨⟨#[120]⟩, 0, 0, 10, 4, 6, 4⟩], [(0, 5)], [], []⟩
theorem known_new : newS [kCt] 5 = (kBk, 0) := by decide +kernel
theorem known_snd : sndS kBk = true := by decide +kernel

set_option maxHeartbeats 1000000 in
theorem known_any (w : World) : Calls Try.prog 10 #[] w fun e w' => e = .returned (.bool true) ∧ Below w.heap.size w w' := by
  have hb1 : Below w.heap.size w (w.alloc (.cells #[.string ⟨#[120]⟩, .int .i64 0, .int .i64 0, .int .i64 10, .int .i64 4, .int .i64 0, .int .i64 0] 25)) := (Below.refl _ _).alloc (Nat.le_refl _) _
  have HS : Hid (SlCt (w.alloc (.cells #[.string ⟨#[120]⟩, .int .i64 0, .int .i64 0, .int .i64 10, .int .i64 4, .int .i64 0, .int .i64 0] 25)) (.slice (some ⟨w.heap.size, 0, none⟩) 1 1) [kCt]) :=
    Lib.hid (sl_of_owns (owns_lit w w.heap.size w.heap.size 25 7 #[.string ⟨#[120]⟩, .int .i64 0, .int .i64 0, .int .i64 10, .int .i64 4, .int .i64 0, .int .i64 0] 1 rfl (Nat.le_refl _) (by omega) rfl))
  go_enter Try.func10, Try.ntmps10
  go_wp2_with fail
  refine (new_any _ [kCt] 5 _ HS.out (by intro c hc; simp at hc; subst hc; unfold maxLen; decide)).mono ?_
  rw [known_new]
  rintro e w2 ⟨⟨⟨ca, cn, cc⟩, ⟨fa, fn, fc⟩, ⟨la, ln, lc⟩, ⟨ba, bn, bc⟩⟩, rfl, hm, hb2⟩
  have hbw := hb1.trans (hb2.mono hb1.size)
  have hbA : Below w2.heap.size w2 (w2.alloc (.cells #[.slice ca cn cc, .slice fa fn fc, .slice la ln lc, .slice ba bn bc] 32)) := (Below.refl _ _).alloc (Nat.le_refl _) _
  have HM := Lib.hid (hm.keep hbA (Nat.le_refl _))
  have hmc := hm.c
  have hx := Sl.lens (s := ⟨ca, cn, cc⟩) hmc
  obtain ⟨e1, g1, g2⟩ := hx
  simp only at e1 g1 g2
  have e2 : cn = 1 := e1
  subst e2
  obtain ⟨b, off, rfl, hbl, c0, c1, c2, c3, c4, c5, c6⟩ := SlT.ct (l := kBk.cs) (ao := ca) (cap := cc) hmc (Below.refl _ w2) (Nat.le_refl _) 0 (by decide)
  simp only [Nat.zero_mul, Nat.add_zero] at c0 c1 c2 c3 c4 c5 c6
  simp only [kBk, List.getElem_cons_zero] at c5 c6
  have HSN : Hid (SndB kBk) := Lib.hid ⟨by decide, by decide, by intro c hc; simp [kBk] at hc; subst hc; unfold maxLen; decide, by intro l hl; simp [kBk] at hl⟩
  have hz2 := hbw.size
  simp only [kBk, List.length_cons, List.length_nil, Nat.zero_add] at g1
  clear hm hmc e1 HS hb1 hb2 c0 c1 c2 c3 c4 hbA
  go_wp2_with ((go_at_call 26; refine (sound_any ⟨⟨some ⟨b, off, none⟩, 1, cc⟩, ⟨fa, fn, fc⟩, ⟨la, ln, lc⟩, ⟨ba, bn, bc⟩⟩ kBk _ HM.out HSN.out).mono ?_); rw [known_snd]; rintro e w4 ⟨rfl, hb4⟩)
  go_ret
  exact ⟨rfl, (hbw.alloc hz2 _).trans (hb4.mono (by simp; omega))⟩

end Go.Proofs.Ytckonmlcgfbojaa
