/- The walks of slices.EqualFunc at leases, Same. -/
import Derived.Test.YtckonmlcgfbojaaLSm
namespace Go.Proofs.Ytckonmlcgfbojaa
open Go.RowKit

set_option maxRecDepth 100000 in
set_option maxHeartbeats 4000000 in
theorem eqLs_any (v v' : Value) (xs ys : List LsC) (a b : List Ls) (w : World) (h : SlT cLs 7 w v xs) (h' : SlT cLs 7 w v' ys) (hx : All2 (LsM w) xs a) (hy : All2 (LsM w) ys b) :
    Calls Try.prog 48 #[v, v', .func (.func 49) #[] #[]] w fun e w' => e = .returned (.bool (decide (a = b))) ∧ Below w.heap.size w w' := by
  obtain ⟨ao, cap, rfl, hcap, hcm⟩ := Sl.shape h
  obtain ⟨ao', cap', rfl, hcap', hcm'⟩ := Sl.shape h'
  have hlx := hx.len
  have hly := hy.len
  have HX := Lib.hid hx
  have HY := Lib.hid hy
  have HLX := Lib.hid hlx
  have HLY := Lib.hid hly
  clear hx hy
  by_cases hnm : xs.length = ys.length
  · have HNM := Lib.hid hnm
    rw [← hnm] at h' hcap' ⊢
    clear hnm
    have H' := Lib.hid h'
    clear h' hlx hly
    go_enter Try.func48, Try.ntmps48
    go_wp2
    go_loopw [17] (fun s wr => ∃ k : Nat, k ≤ xs.length ∧ s = .int .i64 k ∧ Hid (a.take k = b.take k) ∧ Below w.heap.size w wr) (fun s _ => xs.length - (intOf s).toNat)
    case atStart => exact ⟨0, Nat.zero_le _, rfl, Lib.hid rfl, Below.refl _ _⟩
    case round =>
      obtain ⟨k, hk, rfl, A, hb⟩ := hrel
      by_cases hlt : k < xs.length
      · have hlt' : k < ys.length := by rw [← HNM.out]; exact hlt
        have hka : k < a.length := by rw [← HLX.out]; exact hlt
        have hkb : k < b.length := by rw [← HLY.out]; exact hlt'
        obtain ⟨b0, off, rfl, hbl, c0, c1, c2, c3, c4, c5, c6⟩ := SlT.ls h hb (Nat.le_refl _) k hlt
        obtain ⟨b0', off', rfl, hbl', d0, d1, d2, d3, d4, d5, d6⟩ := SlT.ls (cap := cap') (l := ys) (by have h9 := H'.out; rw [HNM.out] at h9; exact h9) hb (Nat.le_refl _) k hlt'
        have HT : Hid (a[k] = b[k] → a.take (k + 1) = b.take (k + 1)) := Lib.hid (fun e => by rw [take_snoc a k hka, take_snoc b k hkb, A.out, e])
        have HF : Hid (¬ a[k] = b[k] → ¬ a = b) := Lib.hid (not_eq_at hka hkb)
        have hbA : Below wr.heap.size wr ((wr.alloc (.cells #[.int .i64 xs[k].dev, .int .i64 xs[k].epoch, .int .i64 xs[k].unt, .int .i64 xs[k].last, xs[k].s.v, xs[k].i.v, xs[k].u.v] 45)).alloc (.cells #[.int .i64 ys[k].dev, .int .i64 ys[k].epoch, .int .i64 ys[k].unt, .int .i64 ys[k].last, ys[k].s.v, ys[k].i.v, ys[k].u.v] 45)) := ((Below.refl _ _).alloc (Nat.le_refl _) _).alloc (by simp) _
        have HMX := Lib.hid ((HX.out.at k hlt hka).keep (hb.trans (hbA.mono hb.size)) (Nat.le_refl _))
        have HMY := Lib.hid ((HY.out.at k hlt' hkb).keep (hb.trans (hbA.mono hb.size)) (Nat.le_refl _))
        have HBA := Lib.hid (hb.trans (hbA.mono hb.size))
        clear hbA
        generalize xs[k] = x at *
        generalize ys[k] = y at *
        generalize a[k] = p at *
        generalize b[k] = q at *
        obtain ⟨x1, x2, x3, x4, ⟨x5, x6, x7⟩, ⟨x8, x9, x10⟩, ⟨x11, x12, x13⟩⟩ := x
        obtain ⟨y1, y2, y3, y4, ⟨y5, y6, y7⟩, ⟨y8, y9, y10⟩, ⟨y11, y12, y13⟩⟩ := y
        simp only [Sv.v] at c0 c1 c2 c3 c4 c5 c6 d0 d1 d2 d3 d4 d5 d6
        have klt : (k : Int) < xs.length := by omega
        have hbr : b0' < wr.heap.size := by have := hb.size; omega
        have hbr2 : b0 < wr.heap.size := by have := hb.size; omega
        go_wp2_with fail
        refine (lsameLease_any ⟨x1, x2, x3, x4, ⟨x5, x6, x7⟩, ⟨x8, x9, x10⟩, ⟨x11, x12, x13⟩⟩ ⟨y1, y2, y3, y4, ⟨y5, y6, y7⟩, ⟨y8, y9, y10⟩, ⟨y11, y12, y13⟩⟩ p q _ HMX.out HMY.out).mono ?_
        rintro e w3 ⟨rfl, hb3⟩
        have HB3 := Lib.hid (HBA.out.trans (hb3.mono HBA.out.size))
        clear hb3 c0 c1 c2 c3 c4 c5 c6 d0 d1 d2 d3 d4 d5 d6
        obtain ⟨r, hr⟩ : ∃ r, decide (p = q) = r := ⟨_, rfl⟩
        rw [hr]
        have HR := Lib.hid hr
        clear hr
        cases r with
        | true =>
          have HE := Lib.hid (HT.out (of_decide_eq_true HR.out))
          go_wp2
          go_roundw
          case rel => exact ⟨k + 1, by omega, by go_num, Lib.hid HE.out, HB3.out⟩
          case measure => simp [intOf]; omega
        | false =>
          have HE := Lib.hid (HF.out (of_decide_eq_false HR.out))
          go_wp2
          go_ret
          exact ⟨ret_bool (decide_eq_false HE.out).symm, HB3.out⟩
      · have : k = xs.length := by omega
        subst this
        have hl2 := A.out
        rw [HLX.out, List.take_length, ← HLX.out, HNM.out, HLY.out, List.take_length] at hl2
        have HL := Lib.hid hl2
        clear hl2
        go_wp2
        go_ret
        exact ⟨ret_bool (decide_eq_true HL.out).symm, hb⟩
  · have hnm' : ¬ (xs.length : Int) = (ys.length : Int) := by omega
    clear hlx hly
    go_enter Try.func48, Try.ntmps48
    go_wp2
    go_ret
    exact ⟨ret_bool (decide_eq_false (fun e => hnm (by rw [HLX.out, HLY.out, e]))).symm, Below.refl _ _⟩

set_option maxRecDepth 100000 in
set_option maxHeartbeats 4000000 in
theorem lsame_any (x y : BkC) (a b : Bk) (w : World) (h : BkM w x a) (h' : BkM w y b) :
    Calls Try.prog 20 #[aBk x, aBk y] w fun e w' => e = .returned (.bool (decide (a = b))) ∧ Below w.heap.size w w' := by
  obtain ⟨⟨ca, cn, cc⟩, ⟨fa, f_n, fc⟩, ⟨la, ln, lc⟩, ⟨ba, b_n, bc⟩⟩ := x
  obtain ⟨⟨ca', cn', cc'⟩, ⟨fa', f_n', fc'⟩, ⟨la', ln', lc'⟩, ⟨ba', b_n', bc'⟩⟩ := y
  obtain ⟨a1, a2, a3, a4⟩ := a
  obtain ⟨b1, b2, b3, b4⟩ := b
  generalize hres : decide ((⟨a1, a2, a3, a4⟩ : Bk) = ⟨b1, b2, b3, b4⟩) = res
  have HRES := Lib.hid hres
  clear hres
  have hb1 : Below w.heap.size w ((w.alloc (.cells #[.slice ca cn cc, .slice fa f_n fc, .slice la ln lc, .slice ba b_n bc] 32)).alloc (.cells #[.slice ca' cn' cc', .slice fa' f_n' fc', .slice la' ln' lc', .slice ba' b_n' bc'] 32)) := ((Below.refl _ _).alloc (Nat.le_refl _) _).alloc (by simp) _
  have HK1 := Lib.hid (alloc_first w (.cells #[.slice ca cn cc, .slice fa f_n fc, .slice la ln lc, .slice ba b_n bc] 32) (.cells #[.slice ca' cn' cc', .slice fa' f_n' fc', .slice la' ln' lc', .slice ba' b_n' bc'] 32))
  have HK2 := Lib.hid (alloc_second w (.cells #[.slice ca cn cc, .slice fa f_n fc, .slice la ln lc, .slice ba b_n bc] 32) (.cells #[.slice ca' cn' cc', .slice fa' f_n' fc', .slice la' ln' lc', .slice ba' b_n' bc'] 32))
  have hz2 : w.heap.size + 1 < ((w.alloc (.cells #[.slice ca cn cc, .slice fa f_n fc, .slice la ln lc, .slice ba b_n bc] 32)).alloc (.cells #[.slice ca' cn' cc', .slice fa' f_n' fc', .slice la' ln' lc', .slice ba' b_n' bc'] 32)).heap.size := by simp
  have HM := Lib.hid (h.keep hb1 (Nat.le_refl _))
  have HM' := Lib.hid (h'.keep hb1 (Nat.le_refl _))
  clear h h'
  change Calls Try.prog _ #[.agg #[.slice ca cn cc, .slice fa f_n fc, .slice la ln lc, .slice ba b_n bc], .agg #[.slice ca' cn' cc', .slice fa' f_n' fc', .slice la' ln' lc', .slice ba' b_n' bc']] w _
  go_enter Try.func20, Try.ntmps20
  go_upto_region 1 with fail
  generalize (w.alloc (.cells #[.slice ca cn cc, .slice fa f_n fc, .slice la ln lc, .slice ba b_n bc] 32)).alloc (.cells #[.slice ca' cn' cc', .slice fa' f_n' fc', .slice la' ln' lc', .slice ba' b_n' bc'] 32) = W at *
  have HB1 := Lib.hid hb1
  clear hb1
  obtain ⟨c0, c1, c2, c3, _⟩ := four_cells HK1.out
  obtain ⟨d0, d1, d2, d3, _⟩ := four_cells HK2.out
  have KS : Hid (∀ V, Below W.heap.size W V → ((V.cell? ⟨w.heap.size, 1, none⟩ = some (.slice fa f_n fc) ∧ V.cell? ⟨w.heap.size, 2, none⟩ = some (.slice la ln lc) ∧ V.cell? ⟨w.heap.size, 3, none⟩ = some (.slice ba b_n bc)) ∧ (V.cell? ⟨w.heap.size + 1, 1, none⟩ = some (.slice fa' f_n' fc') ∧ V.cell? ⟨w.heap.size + 1, 2, none⟩ = some (.slice la' ln' lc') ∧ V.cell? ⟨w.heap.size + 1, 3, none⟩ = some (.slice ba' b_n' bc')))) := Lib.hid (fun V hV => by
    obtain ⟨_, p1, p2, p3, _⟩ := four_cells (block_below HK1.out hV (by omega))
    obtain ⟨_, q1, q2, q3, _⟩ := four_cells (block_below HK2.out hV hz2)
    exact ⟨⟨p1, p2, p3⟩, q1, q2, q3⟩)
  have HNE : Hid (¬ (a1 = b1 ∧ a2 = b2 ∧ a3 = b3 ∧ a4 = b4) → res = false) := Lib.hid (fun hh => by
    rw [← HRES.out, decide_eq_false_iff_not]
    intro e
    injection e with e1 e2 e3 e4
    exact hh ⟨e1, e2, e3, e4⟩)
  go_wp2_with fail
  refine (eqCt_any _ _ _ _ _ HM.out.c HM'.out.c).mono ?_
  rintro e w3 ⟨rfl, hb3⟩
  clear c0 c1 c2 c3 d0 d1 d2 d3
  obtain ⟨⟨p1, p2, p3⟩, q1, q2, q3⟩ := KS.out _ hb3
  have HM3 := Lib.hid (HM.out.keep hb3 (Nat.le_refl _))
  have HM3' := Lib.hid (HM'.out.keep hb3 (Nat.le_refl _))
  have HB3 := Lib.hid (HB1.out.trans (hb3.mono HB1.out.size))
  have HW3 := Lib.hid hb3
  obtain ⟨q, hq⟩ : ∃ q, decide (a1 = b1) = q := ⟨_, rfl⟩
  simp only [hq]
  have HQ := Lib.hid hq
  clear hq hb3
  cases q with
  | false =>
    have HF := Lib.hid (HNE.out (fun h => by have := HQ.out; rw [h.1] at this; simp at this))
    go_wp2
    go_ret
    exact ⟨ret_bool HF.out.symm, HB3.out⟩
  | true =>
    go_wp2_with fail
    refine (eqRg_any _ _ _ _ _ HM3.out.f HM3'.out.f).mono ?_
    rintro e w4 ⟨rfl, hb4⟩
    have hb4' := HW3.out.trans (hb4.mono HW3.out.size)
    clear p1 p2 p3 q1 q2 q3
    obtain ⟨⟨p1, p2, p3⟩, q1, q2, q3⟩ := KS.out _ hb4'
    have HM4 := Lib.hid (HM.out.keep hb4' (Nat.le_refl _))
    have HM4' := Lib.hid (HM'.out.keep hb4' (Nat.le_refl _))
    have HB4 := Lib.hid (HB1.out.trans (hb4'.mono HB1.out.size))
    have HW4 := Lib.hid hb4'
    obtain ⟨q2, hq⟩ : ∃ q, decide (a2 = b2) = q := ⟨_, rfl⟩
    simp only [hq]
    have HQ2 := Lib.hid hq
    clear hq hb4 hb4'
    cases q2 with
    | false =>
      have HF := Lib.hid (HNE.out (fun h => by have := HQ2.out; rw [h.2.1] at this; simp at this))
      go_wp2
      go_ret
      exact ⟨ret_bool HF.out.symm, HB4.out⟩
    | true =>
      obtain ⟨xs, hx, hxa⟩ := HM4.out.l
      obtain ⟨ys, hy, hya⟩ := HM4'.out.l
      have HX := Lib.hid hx
      have HY := Lib.hid hy
      have HXA := Lib.hid hxa
      have HYA := Lib.hid hya
      clear hx hy hxa hya
      go_wp2_with fail
      refine (eqLs_any _ _ xs ys a3 b3 _ HX.out HY.out HXA.out HYA.out).mono ?_
      rintro e w5 ⟨rfl, hb5⟩
      have hb5' := HW4.out.trans (hb5.mono HW4.out.size)
      clear p1 p2 p3 q1 q2 q3
      obtain ⟨⟨p1, p2, p3⟩, q1, q2, q3⟩ := KS.out _ hb5'
      have HM5 := Lib.hid (HM.out.keep hb5' (Nat.le_refl _))
      have HM5' := Lib.hid (HM'.out.keep hb5' (Nat.le_refl _))
      have HB5 := Lib.hid (HB1.out.trans (hb5'.mono HB1.out.size))
      obtain ⟨q3, hq⟩ : ∃ q, decide (a3 = b3) = q := ⟨_, rfl⟩
      simp only [hq]
      have HQ3 := Lib.hid hq
      clear hq hb5 hb5'
      cases q3 with
      | false =>
        have HF := Lib.hid (HNE.out (fun h => by have := HQ3.out; rw [h.2.2.1] at this; simp at this))
        go_wp2
        go_ret
        exact ⟨ret_bool HF.out.symm, HB5.out⟩
      | true =>
        go_wp2_with fail
        refine (eqIn_any _ _ _ _ _ HM5.out.b HM5'.out.b).mono ?_
        rintro e w6 ⟨rfl, hb6⟩
        have HB6 := Lib.hid (HB5.out.trans (hb6.mono HB5.out.size))
        have HFIN : Hid (decide (a4 = b4) = res) := Lib.hid (by
          rw [← HRES.out]
          have h1 := of_decide_eq_true HQ.out
          have h2 := of_decide_eq_true HQ2.out
          have h3 := of_decide_eq_true HQ3.out
          subst h1 h2 h3
          congr 1
          simp)
        clear hb6
        simp only [HFIN.out]
        go_wp2
        go_ret
        exact ⟨rfl, HB6.out⟩

end Go.Proofs.Ytckonmlcgfbojaa
