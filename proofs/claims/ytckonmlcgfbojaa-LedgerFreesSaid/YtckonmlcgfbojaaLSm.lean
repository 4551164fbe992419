/- The walks of sameLease, slices.EqualFunc at leases, Same. -/
import Derived.Test.YtckonmlcgfbojaaLEq
import Derived.Test.YtckonmlcgfbojaaLWkE
namespace Go.Proofs.Ytckonmlcgfbojaa
open Go.RowKit

set_option maxRecDepth 100000 in
set_option maxHeartbeats 4000000 in
theorem lsameLease_any (x y : LsC) (a b : Ls) (w : World) (h : LsM w x a) (h' : LsM w y b) :
    Calls Try.prog 49 #[aLs x, aLs y] w fun e w' => e = .returned (.bool (decide (a = b))) ∧ Below w.heap.size w w' := by
  obtain ⟨x1, x2, x3, x4, ⟨x5, x6, x7⟩, ⟨x8, x9, x10⟩, ⟨x11, x12, x13⟩⟩ := x
  obtain ⟨y1, y2, y3, y4, ⟨y5, y6, y7⟩, ⟨y8, y9, y10⟩, ⟨y11, y12, y13⟩⟩ := y
  obtain ⟨a1, a2, a3, a4, a5, a6, a7⟩ := a
  obtain ⟨b1, b2, b3, b4, b5, b6, b7⟩ := b
  obtain ⟨e1, e2, e3, e4, hs, hi, hu⟩ := h
  obtain ⟨e1', e2', e3', e4', hs', hi', hu'⟩ := h'
  simp only at e1 e2 e3 e4 e1' e2' e3' e4'
  subst e1 e2 e3 e4 e1' e2' e3' e4'
  generalize hres : decide ((⟨x1, x2, x3, x4, a5, a6, a7⟩ : Ls) = ⟨y1, y2, y3, y4, b5, b6, b7⟩) = res
  have HRES := Lib.hid hres
  clear hres
  have hb1 : Below w.heap.size w ((w.alloc (.cells #[.int .i64 x1, .int .i64 x2, .int .i64 x3, .int .i64 x4, .slice x5 x6 x7, .slice x8 x9 x10, .slice x11 x12 x13] 45)).alloc (.cells #[.int .i64 y1, .int .i64 y2, .int .i64 y3, .int .i64 y4, .slice y5 y6 y7, .slice y8 y9 y10, .slice y11 y12 y13] 45)) := ((Below.refl _ _).alloc (Nat.le_refl _) _).alloc (by simp) _
  have k1 := alloc_first w (.cells #[.int .i64 x1, .int .i64 x2, .int .i64 x3, .int .i64 x4, .slice x5 x6 x7, .slice x8 x9 x10, .slice x11 x12 x13] 45) (.cells #[.int .i64 y1, .int .i64 y2, .int .i64 y3, .int .i64 y4, .slice y5 y6 y7, .slice y8 y9 y10, .slice y11 y12 y13] 45)
  have k2 := alloc_second w (.cells #[.int .i64 x1, .int .i64 x2, .int .i64 x3, .int .i64 x4, .slice x5 x6 x7, .slice x8 x9 x10, .slice x11 x12 x13] 45) (.cells #[.int .i64 y1, .int .i64 y2, .int .i64 y3, .int .i64 y4, .slice y5 y6 y7, .slice y8 y9 y10, .slice y11 y12 y13] 45)
  have hz2 : w.heap.size + 1 < ((w.alloc (.cells #[.int .i64 x1, .int .i64 x2, .int .i64 x3, .int .i64 x4, .slice x5 x6 x7, .slice x8 x9 x10, .slice x11 x12 x13] 45)).alloc (.cells #[.int .i64 y1, .int .i64 y2, .int .i64 y3, .int .i64 y4, .slice y5 y6 y7, .slice y8 y9 y10, .slice y11 y12 y13] 45)).heap.size := by simp
  change Calls Try.prog _ #[.agg #[.int .i64 x1, .int .i64 x2, .int .i64 x3, .int .i64 x4, .slice x5 x6 x7, .slice x8 x9 x10, .slice x11 x12 x13], .agg #[.int .i64 y1, .int .i64 y2, .int .i64 y3, .int .i64 y4, .slice y5 y6 y7, .slice y8 y9 y10, .slice y11 y12 y13]] w _
  have HK1 := Lib.hid k1
  have HK2 := Lib.hid k2
  clear k1 k2
  go_enter Try.func49, Try.ntmps49
  go_upto_region 1 with fail
  have HS := Lib.hid (SlT.keep hs hb1 (Nat.le_refl _))
  have HS' := Lib.hid (SlT.keep hs' hb1 (Nat.le_refl _))
  have HI := Lib.hid (SlR.keep hi hb1 (Nat.le_refl _))
  have HI' := Lib.hid (SlR.keep hi' hb1 (Nat.le_refl _))
  have HU := Lib.hid (SlI.keep hu hb1 (Nat.le_refl _))
  have HU' := Lib.hid (SlI.keep hu' hb1 (Nat.le_refl _))
  clear hs hs' hi hi' hu hu'
  generalize (w.alloc (.cells #[.int .i64 x1, .int .i64 x2, .int .i64 x3, .int .i64 x4, .slice x5 x6 x7, .slice x8 x9 x10, .slice x11 x12 x13] 45)).alloc (.cells #[.int .i64 y1, .int .i64 y2, .int .i64 y3, .int .i64 y4, .slice y5 y6 y7, .slice y8 y9 y10, .slice y11 y12 y13] 45) = W at *
  have HB1 := Lib.hid hb1
  clear hb1
  obtain ⟨c0, c1, c2, c3, c4, c5, c6, _⟩ := seven_cells HK1.out
  obtain ⟨d0, d1, d2, d3, d4, d5, d6, _⟩ := seven_cells HK2.out
  have KS : Hid (∀ V, Below W.heap.size W V → ((V.cell? ⟨w.heap.size, 5, none⟩ = some (.slice x8 x9 x10) ∧ V.cell? ⟨w.heap.size, 6, none⟩ = some (.slice x11 x12 x13)) ∧ (V.cell? ⟨w.heap.size + 1, 5, none⟩ = some (.slice y8 y9 y10) ∧ V.cell? ⟨w.heap.size + 1, 6, none⟩ = some (.slice y11 y12 y13)))) := Lib.hid (fun V hV => by
    obtain ⟨_, _, _, _, _, p5, p6, _⟩ := seven_cells (block_below HK1.out hV (by omega))
    obtain ⟨_, _, _, _, _, q5, q6, _⟩ := seven_cells (block_below HK2.out hV hz2)
    exact ⟨⟨p5, p6⟩, q5, q6⟩)
  have HNE : Hid (¬ (x1 = y1 ∧ x2 = y2 ∧ x3 = y3 ∧ x4 = y4 ∧ a5 = b5 ∧ a6 = b6 ∧ a7 = b7) → res = false) := Lib.hid (fun hh => by
    rw [← HRES.out, decide_eq_false_iff_not]
    intro e
    injection e with e1 e2 e3 e4 e5 e6 e7
    exact hh ⟨e1, e2, e3, e4, e5, e6, e7⟩)
  by_cases g1 : x1 = y1
  case neg =>
    have s1 : (x1 == y1) = false := by simpa using g1
    have HF := Lib.hid (HNE.out (fun h => g1 h.1))
    clear g1
    go_wp2
    go_ret
    exact ⟨ret_bool HF.out.symm, HB1.out⟩
  subst g1
  by_cases g2 : x2 = y2
  case neg =>
    have s1 : (x2 == y2) = false := by simpa using g2
    have HF := Lib.hid (HNE.out (fun h => g2 h.2.1))
    clear g2
    go_wp2
    go_ret
    exact ⟨ret_bool HF.out.symm, HB1.out⟩
  subst g2
  by_cases g3 : x3 = y3
  case neg =>
    have s1 : (x3 == y3) = false := by simpa using g3
    have HF := Lib.hid (HNE.out (fun h => g3 h.2.2.1))
    clear g3
    go_wp2
    go_ret
    exact ⟨ret_bool HF.out.symm, HB1.out⟩
  subst g3
  by_cases g4 : x4 = y4
  case neg =>
    have s1 : (x4 == y4) = false := by simpa using g4
    have HF := Lib.hid (HNE.out (fun h => g4 h.2.2.2.1))
    clear g4
    go_wp2
    go_ret
    exact ⟨ret_bool HF.out.symm, HB1.out⟩
  subst g4
  go_wp2_with fail
  refine (eqSc_any _ _ _ _ _ HS.out HS'.out).mono ?_
  rintro e w3 ⟨rfl, hb3⟩
  obtain ⟨⟨p5, p6⟩, q5, q6⟩ := KS.out _ hb3
  have HI3 := Lib.hid (SlR.keep HI.out hb3 (Nat.le_refl _))
  have HI3' := Lib.hid (SlR.keep HI'.out hb3 (Nat.le_refl _))
  have HB3 := Lib.hid (HB1.out.trans (hb3.mono HB1.out.size))
  obtain ⟨q, hq⟩ : ∃ q, decide (a5 = b5) = q := ⟨_, rfl⟩
  rw [hq]
  have HQ := Lib.hid hq
  have HB3W := Lib.hid hb3
  clear hq hb3
  cases q with
  | false =>
    have HF := Lib.hid (HNE.out (fun h => by have := HQ.out; rw [h.2.2.2.2.1] at this; simp at this))
    go_wp2
    go_ret
    exact ⟨ret_bool HF.out.symm, HB3.out⟩
  | true =>
    clear p6 q6
    go_wp2_with fail
    refine (eqRg_any _ _ _ _ _ HI3.out HI3'.out).mono ?_
    rintro e w4 ⟨rfl, hb4⟩
    have hb4' := HB3W.out.trans (hb4.mono HB3W.out.size)
    clear p5 q5
    obtain ⟨⟨p5, p6⟩, q5, q6⟩ := KS.out _ hb4'
    have HU4 := Lib.hid (SlI.keep HU.out hb4' (Nat.le_refl _))
    have HU4' := Lib.hid (SlI.keep HU'.out hb4' (Nat.le_refl _))
    have HB4 := Lib.hid (HB1.out.trans (hb4'.mono HB1.out.size))
    obtain ⟨q2, hq⟩ : ∃ q, decide (a6 = b6) = q := ⟨_, rfl⟩
    rw [hq]
    have HQ2 := Lib.hid hq
    clear hq hb4 hb4'
    cases q2 with
    | false =>
      have HF := Lib.hid (HNE.out (fun h => by have := HQ2.out; rw [h.2.2.2.2.2.1] at this; simp at this))
      go_wp2
      go_ret
      exact ⟨ret_bool HF.out.symm, HB4.out⟩
    | true =>
      go_wp2_with fail
      refine (eqIn_any _ _ _ _ _ HU4.out HU4'.out).mono ?_
      rintro e w5 ⟨rfl, hb5⟩
      have HB5 := Lib.hid (HB4.out.trans (hb5.mono HB4.out.size))
      have HFIN : Hid (decide (a7 = b7) = res) := Lib.hid (by
        rw [← HRES.out]
        have h1 := of_decide_eq_true HQ.out
        have h2 := of_decide_eq_true HQ2.out
        subst h1 h2
        congr 1
        simp)
      clear hb5
      rw [HFIN.out]
      go_wp2
      go_ret
      exact ⟨rfl, HB5.out⟩

end Go.Proofs.Ytckonmlcgfbojaa
