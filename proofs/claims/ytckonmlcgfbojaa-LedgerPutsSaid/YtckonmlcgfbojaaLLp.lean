/- The walk of LedgerPuts. -/
import Derived.Test.YtckonmlcgfbojaaLLw
import Derived.Test.YtckonmlcgfbojaaLGd
namespace Go.Proofs.Ytckonmlcgfbojaa
open Go.RowKit

def pL : Ls := ⟨2, 3, 50, -1, [⟨⟨#[98]⟩, 3, 0, 0, 0⟩], [], []⟩
def pM : Ls := ⟨4, 1, 60, -1, [⟨⟨#[98]⟩, 5, 0, 0, 0⟩], [], []⟩
def pB1 : Bk := ⟨[⟨⟨#[97]⟩, 0, 0, 20, 10, 10, 10⟩, ⟨⟨#[98]⟩, 1, -30, 30, 0, 27, 30⟩], [(0, 40)], [pL], []⟩
def pB2 : Bk := ⟨[⟨⟨#[97]⟩, 0, 0, 20, 10, 10, 10⟩, ⟨⟨#[98]⟩, 1, -30, 30, 0, 22, 30⟩], [(0, 40)], [pL, pM], []⟩
def pLm (d e m : Int) : Ls := ⟨d, e, 50, m, [⟨⟨#[98]⟩, 3, 0, 0, 0⟩], [], []⟩
def pB3 (m : Int) : Bk := ⟨pB2.cs, pB2.free, [pLm 2 3 m, pM], []⟩
theorem puts_g1 : grantS begBk 2 3 50 [⟨⟨#[98]⟩, 3, 0, 0⟩] = (pB1, pL, 0) := by decide +kernel
theorem puts_g2 : grantS pB1 4 1 60 [⟨⟨#[98]⟩, 5, 0, 0⟩] = (pB2, pM, 0) := by decide +kernel
theorem puts_put (m : Int) : putS pB2 (pLm 2 3 m) = (pB3 m, 0) := by
  have h : atIx pB2.ls 2 3 = 0 := by decide
  unfold putS
  rw [show (pLm 2 3 m).dev = 2 from rfl, show (pLm 2 3 m).epoch = 3 from rfl, h]
  rfl
theorem puts_f1 (m : Int) : findS (pB3 m) 2 3 = (pLm 2 3 m, true) := by rfl
theorem puts_f2 (m : Int) : findS (pB3 m) 4 1 = (pM, true) := by rfl
theorem puts_no (d e m : Int) (h1 : ¬ (d = 2 ∧ e = 3)) (h2 : ¬ (d = 4 ∧ e = 1)) : putS pB2 (pLm d e m) = (pB2, 2) := by
  have h : atIx pB2.ls d e = -1 := idxS_none (fun x hx => by
    simp only [pB2, List.mem_cons, List.not_mem_nil, or_false] at hx
    rcases hx with rfl | rfl
    · rw [Bool.and_eq_false_iff, decide_eq_false_iff_not, decide_eq_false_iff_not]
      simp only [pL]
      omega
    · rw [Bool.and_eq_false_iff, decide_eq_false_iff_not, decide_eq_false_iff_not]
      simp only [pM]
      omega)
  unfold putS
  rw [show (pLm d e m).dev = d from rfl, show (pLm d e m).epoch = e from rfl, h]
  rfl
theorem p_lsB {l : Ls} (h : l = pL ∨ l = pM ∨ ∃ d e m, l = pLm d e m) : LsB l := by
  rcases h with rfl | rfl | ⟨d, e, m, rfl⟩
  · exact ⟨by decide, by decide, by decide⟩
  · exact ⟨by decide, by decide, by decide⟩
  · exact ⟨by simp [pLm], by simp [pLm], by simp [pLm]⟩
theorem pB2_bkB : BkB pB2 := ⟨by decide, by decide, by decide, by decide, fun l hl => p_lsB (by simp [pB2] at hl; rcases hl with rfl | rfl; exact .inl rfl; exact .inr (.inl rfl))⟩
theorem pB3_bkB (m : Int) : BkB (pB3 m) := ⟨by simp [pB3, pB2], by simp [pB3, pB2], by simp [pB3], by simp [pB3], fun l hl => p_lsB (by simp [pB3] at hl; rcases hl with rfl | rfl; exact .inr (.inr ⟨_, _, _, rfl⟩); exact .inr (.inl rfl))⟩
theorem pB1_grB : GrB pB1 := ⟨by decide, by decide, by decide, by decide, fun l hl => by simp [pB1] at hl; subst hl; exact ⟨by decide, by decide, by decide⟩, small_one 0 40 (by decide) (by decide) (by decide), fun c hc => by
  simp only [pB1, List.mem_cons, List.not_mem_nil, or_false] at hc
  rcases hc with rfl | rfl <;> decide⟩

set_option maxRecDepth 100000 in
set_option maxHeartbeats 8000000 in
theorem puts_walk (dev ep last : Int) (w : World) : Calls Try.prog 6 #[.int .i64 dev, .int .i64 ep, .int .i64 last] w fun e w' => e = .returned (.bool true) ∧ Below w.heap.size w w' := by
  go_enter Try.func6, Try.ntmps6
  go_wp2_with fail
  refine (known_any _).mono ?_
  rintro e w1 ⟨rfl, hb1⟩
  go_wp2_with fail
  refine (begin_any _).mono ?_
  rintro e W2 ⟨⟨⟨ca, cn, cc⟩, ⟨fa, fn, fc⟩, ⟨la, ln, lc⟩, ⟨ba, bn, bc⟩⟩, rfl, hm2, hb2⟩
  have hbA : Below W2.heap.size W2 (W2.alloc (.cells #[.string ⟨#[98]⟩, .int .i64 3, .int .i64 0, .int .i64 0] 49)) := (Below.refl _ _).alloc (Nat.le_refl _) _
  have HM := Lib.hid (hm2.keep hbA (Nat.le_refl _))
  have HV := Lib.hid (slWn_one (heap_alloc_new W2 (.cells #[.string ⟨#[98]⟩, .int .i64 3, .int .i64 0, .int .i64 0] 49)))
  have HBW2 := Lib.hid ((hb1.trans (hb2.mono hb1.size)).trans (hbA.mono (hb1.trans (hb2.mono hb1.size)).size))
  clear hm2 hb2 hb1 hbA
  go_wp2_with fail
  refine (grant_any ⟨⟨ca, cn, cc⟩, ⟨fa, fn, fc⟩, ⟨la, ln, lc⟩, ⟨ba, bn, bc⟩⟩ begBk 2 3 50 _ [⟨⟨#[98]⟩, 3, 0, 0⟩] _ HM.out begGrB HV.out).mono ?_
  rw [puts_g1]
  rintro e W3 ⟨⟨⟨da, dn, dc⟩, ⟨ea, en', ec⟩, ⟨ma, mn, mc⟩, ⟨na, nn, nc⟩⟩, ⟨y1, y2, y3, y4, ⟨y5, y6, y7⟩, ⟨y8, y9, y10⟩, ⟨y11, y12, y13⟩⟩, rfl, hm3, hl3, hb3⟩
  have hy1 : y1 = 2 := hl3.dev
  have hy2 : y2 = 3 := hl3.epoch
  have hy3 : y3 = 50 := hl3.unt
  have hy4 : y4 = -1 := hl3.last
  subst hy1 hy2 hy3 hy4
  obtain ⟨W4, hW4⟩ : ∃ W4, (W3.alloc (.cells #[.slice da dn dc, .slice ea en' ec, .slice ma mn mc, .slice na nn nc] 32)).alloc (.cells #[.int .i64 2, .int .i64 3, .int .i64 50, .int .i64 (-1), .slice y5 y6 y7, .slice y8 y9 y10, .slice y11 y12 y13] 45) = W4 := ⟨_, rfl⟩
  have hb34 : Below W3.heap.size W3 W4 := by rw [← hW4]; exact ((Below.refl _ _).alloc (Nat.le_refl _) _).alloc (by simp) _
  have k7 : W4.heap[W3.heap.size]? = some (.cells #[.slice da dn dc, .slice ea en' ec, .slice ma mn mc, .slice na nn nc] 32 (0, 0)) := by rw [← hW4]; exact alloc_first _ _ _
  have k8 : W4.heap[W3.heap.size + 1]? = some (.cells #[.int .i64 2, .int .i64 3, .int .i64 50, .int .i64 (-1), .slice y5 y6 y7, .slice y8 y9 y10, .slice y11 y12 y13] 45 (0, 0)) := by rw [← hW4]; exact alloc_second _ _ _
  have hz4 : W3.heap.size + 1 < W4.heap.size := (Array.getElem?_eq_some_iff.1 k8).1
  have HW4 := Lib.hid hW4
  clear hW4
  have hb45 : Below W4.heap.size W4 (W4.alloc (.cells #[.string ⟨#[98]⟩, .int .i64 5, .int .i64 0, .int .i64 0] 49)) := (Below.refl _ _).alloc (Nat.le_refl _) _
  have HM5 := Lib.hid (hm3.keep (hb34.trans (hb45.mono hb34.size)) (Nat.le_refl _))
  have HV5 := Lib.hid (slWn_one (heap_alloc_new W4 (.cells #[.string ⟨#[98]⟩, .int .i64 5, .int .i64 0, .int .i64 0] 49)))
  have hz5 : W4.heap.size < (W4.alloc (.cells #[.string ⟨#[98]⟩, .int .i64 5, .int .i64 0, .int .i64 0] 49)).heap.size := by simp
  have HL3 := Lib.hid hl3
  have HBW3 := Lib.hid (HBW2.out.trans (hb3.mono HBW2.out.size))
  have HB35 := Lib.hid (hb34.trans (hb45.mono hb34.size))
  have K7 := Lib.hid (block_below k7 hb45 (by omega))
  have K8 := Lib.hid (block_below k8 hb45 (by omega))
  obtain ⟨d0, d1, d2, d3, hx9⟩ := four_cells k7
  clear hm3 hl3 hb3 hb34 hb45 k7 k8 hx9 HM HV HBW2
  go_upto_region 4 with fail
  rw [HW4.out]
  go_wp2_with fail
  generalize W4.alloc (.cells #[.string ⟨#[98]⟩, .int .i64 5, .int .i64 0, .int .i64 0] 49) = W5 at *
  refine (grant_own ⟨⟨da, dn, dc⟩, ⟨ea, en', ec⟩, ⟨ma, mn, mc⟩, ⟨na, nn, nc⟩⟩ pB1 4 1 60 _ [⟨⟨#[98]⟩, 5, 0, 0⟩] _ HM5.out pB1_grB HV5.out).mono ?_
  rw [puts_g2]
  rintro e W6 ⟨⟨⟨ga, gn, gc⟩, ⟨ha, hn, hc⟩, ⟨ia, i_n, ic⟩, ⟨ja, jn, jc⟩⟩, ⟨z1, z2, z3, z4, ⟨z5, z6, z7⟩, ⟨z8, z9, z10⟩, ⟨z11, z12, z13⟩⟩, xs, C, rfl, hm6, hC6, hl6, hb6⟩
  have hq3 : z3 = 60 := hl6.unt
  subst hq3
  clear d0 d1 d2 d3
  have k7 := block_below K7.out hb6 (by omega)
  have k8 := block_below K8.out hb6 (by omega)
  obtain ⟨d0, d1, d2, d3, hx9⟩ := four_cells k7
  have f0 := four_free k7 0
  have f1 := four_free k7 1
  have f2 := four_free k7 2
  have f3 := four_free k7 3
  clear hx9
  have hp7 : W3.heap.size < W5.heap.size := by omega
  obtain ⟨W7, hW7⟩ : ∃ W7, ((((W6.setCell ⟨W3.heap.size, 0, none⟩ (.slice ga gn gc)).setCell ⟨W3.heap.size, 1, none⟩ (.slice ha hn hc)).setCell ⟨W3.heap.size, 2, none⟩ (.slice ia i_n ic)).setCell ⟨W3.heap.size, 3, none⟩ (.slice ja jn jc)).alloc (.cells #[.int .i64 z1, .int .i64 z2, .int .i64 60, .int .i64 z4, .slice z5 z6 z7, .slice z8 z9 z10, .slice z11 z12 z13] 45) = W7 := ⟨_, rfl⟩
  have hbs : Below ((((W6.setCell ⟨W3.heap.size, 0, none⟩ (.slice ga gn gc)).setCell ⟨W3.heap.size, 1, none⟩ (.slice ha hn hc)).setCell ⟨W3.heap.size, 2, none⟩ (.slice ia i_n ic)).setCell ⟨W3.heap.size, 3, none⟩ (.slice ja jn jc)).heap.size ((((W6.setCell ⟨W3.heap.size, 0, none⟩ (.slice ga gn gc)).setCell ⟨W3.heap.size, 1, none⟩ (.slice ha hn hc)).setCell ⟨W3.heap.size, 2, none⟩ (.slice ia i_n ic)).setCell ⟨W3.heap.size, 3, none⟩ (.slice ja jn jc)) W7 := by rw [← hW7]; exact (Below.refl _ _).alloc (Nat.le_refl _) _
  have hsz6 : ((((W6.setCell ⟨W3.heap.size, 0, none⟩ (.slice ga gn gc)).setCell ⟨W3.heap.size, 1, none⟩ (.slice ha hn hc)).setCell ⟨W3.heap.size, 2, none⟩ (.slice ia i_n ic)).setCell ⟨W3.heap.size, 3, none⟩ (.slice ja jn jc)).heap.size = W6.heap.size := size_set4 _ _ _ _ _ _ _ _ _
  have hm7 := ((((hm6.put hC6 ⟨W3.heap.size, 0, none⟩ hp7 (.slice ga gn gc)).put hC6 ⟨W3.heap.size, 1, none⟩ hp7 (.slice ha hn hc)).put hC6 ⟨W3.heap.size, 2, none⟩ hp7 (.slice ia i_n ic)).put hC6 ⟨W3.heap.size, 3, none⟩ hp7 (.slice ja jn jc)).keep hbs
  have HM7 := Lib.hid hm7
  have hs6 := hb6.size
  have K7' := Lib.hid (block_below (set_four k7 (.slice ga gn gc) (.slice ha hn hc) (.slice ia i_n ic) (.slice ja jn jc)) hbs (by rw [hsz6]; omega))
  have K8' := Lib.hid (block_below ((set_other4 W6 W3.heap.size (W3.heap.size + 1) (by omega) (.slice ga gn gc) (.slice ha hn hc) (.slice ia i_n ic) (.slice ja jn jc) 0 1 2 3).trans k8) hbs (by rw [hsz6]; omega))
  have k10 : W7.heap[W6.heap.size]? = some (.cells #[.int .i64 z1, .int .i64 z2, .int .i64 60, .int .i64 z4, .slice z5 z6 z7, .slice z8 z9 z10, .slice z11 z12 z13] 45 (0, 0)) := by rw [← hW7, ← hsz6]; exact heap_alloc_new _ _
  have K10 := Lib.hid k10
  have hbb : Below W3.heap.size W3 W6 := HB35.out.trans (hb6.mono HB35.out.size)
  have HB37 := Lib.hid (((((hbb.setCell (p := ⟨W3.heap.size, 0, none⟩) (Nat.le_refl _) (.slice ga gn gc)).setCell (p := ⟨W3.heap.size, 1, none⟩) (Nat.le_refl _) (.slice ha hn hc)).setCell (p := ⟨W3.heap.size, 2, none⟩) (Nat.le_refl _) (.slice ia i_n ic)).setCell (p := ⟨W3.heap.size, 3, none⟩) (Nat.le_refl _) (.slice ja jn jc)).trans (hbs.mono (by rw [hsz6]; have := hbb.size; omega)))
  have hz7 : W6.heap.size < W7.heap.size := (Array.getElem?_eq_some_iff.1 k10).1
  have HW7 := Lib.hid hW7
  clear hW7 hbs hsz6 hm7 hm6 hl6 hb6 hbb k10 k7 k8 K7 K8 HM5 HV5 HW4 HB35
  have hlt36 : W3.heap.size < W6.heap.size := by omega
  have hlt37 : W3.heap.size + 1 < W6.heap.size := by omega
  go_upto_region 5 with fail
  rw [HW7.out]
  go_upto_region 7 with fail
  have hm0 := Int.emod_nonneg last (show (100 : Int) ≠ 0 by omega)
  have hm9 := Int.emod_lt_of_pos last (show (0 : Int) < 100 by omega)
  clear d0 d1 d2 d3 f0 f1 f2 f3
  obtain ⟨e0, e1, e2, e3, e4, e5, e6, hx9⟩ := seven_cells K8'.out
  have fz3 := seven_free K8'.out 3
  clear hx9
  go_wp2_with fail
  refine (wi_any last 100 _ (by omega) (by omega)).mono ?_
  rintro e wq ⟨rfl, rfl⟩
  generalize last % 100 = m at *
  have HB8 := Lib.hid (HB37.out.setCell (p := ⟨W3.heap.size + 1, 3, none⟩) (by simp) (.int .i64 m))
  have K8 : Hid ((W7.setCell ⟨W3.heap.size + 1, 3, none⟩ (.int .i64 m)).heap[W3.heap.size + 1]? = some (.cells #[.int .i64 2, .int .i64 3, .int .i64 50, .int .i64 m, .slice y5 y6 y7, .slice y8 y9 y10, .slice y11 y12 y13] 45 (0, 0))) := Lib.hid (by simp [World.setCell, Array.getElem?_modify, K8'.out])
  have K7 := Lib.hid ((set_ne W7 ⟨W3.heap.size + 1, 3, none⟩ W3.heap.size (by simp) (.int .i64 m)).trans K7'.out)
  have K10' := Lib.hid ((set_ne W7 ⟨W3.heap.size + 1, 3, none⟩ W6.heap.size (by simp; omega) (.int .i64 m)).trans K10.out)
  have HM8 := Lib.hid (HM7.out.put hC6 ⟨W3.heap.size + 1, 3, none⟩ (by simp; omega) (.int .i64 m))
  have hz8 : W6.heap.size < (W7.setCell ⟨W3.heap.size + 1, 3, none⟩ (.int .i64 m)).heap.size := by simp [World.setCell]; omega
  clear K8' K7' K10 HM7
  go_upto_region 8 with fail
  generalize W7.setCell ⟨W3.heap.size + 1, 3, none⟩ (.int .i64 m) = W8 at *
  clear e0 e1 e2 e3 e4 e5 e6 fz3
  have HL8 : Hid (LsM W8 ⟨2, 3, 50, m, ⟨y5, y6, y7⟩, ⟨y8, y9, y10⟩, ⟨y11, y12, y13⟩⟩ (pLm 2 3 m)) := Lib.hid (by
    have h := HL3.out.keep HB8.out (Nat.le_refl _)
    exact ⟨rfl, rfl, rfl, rfl, h.s, h.i, h.u⟩)
  obtain ⟨d0, d1, d2, d3, hx9⟩ := four_cells K7.out
  obtain ⟨e0, e1, e2, e3, e4, e5, e6, hx8⟩ := seven_cells K8.out
  clear hx9 hx8
  have HBW8 := Lib.hid (HBW3.out.trans (HB8.out.mono HBW3.out.size))
  go_wp2_with fail
  refine (put_any ⟨⟨ga, gn, gc⟩, ⟨ha, hn, hc⟩, ⟨ia, i_n, ic⟩, ⟨ja, jn, jc⟩⟩ pB2 ⟨2, 3, 50, m, ⟨y5, y6, y7⟩, ⟨y8, y9, y10⟩, ⟨y11, y12, y13⟩⟩ (pLm 2 3 m) _ HM8.out.m pB2_bkB HL8.out (p_lsB (.inr (.inr ⟨_, _, _, rfl⟩)))).mono ?_
  rw [puts_put]
  rintro e W9 ⟨⟨⟨ka, kn, kc⟩, ⟨oa, on, oc⟩, ⟨pa, pn, pc⟩, ⟨qa, qn, qc⟩⟩, rfl, hm9', hb9⟩
  have hbX : Below W9.heap.size W9 (W9.alloc (.cells #[.slice ka kn kc, .slice oa on oc, .slice pa pn pc, .slice qa qn qc] 32)) := (Below.refl _ _).alloc (Nat.le_refl _) _
  have K12 := Lib.hid (heap_alloc_new W9 (.cells #[.slice ka kn kc, .slice oa on oc, .slice pa pn pc, .slice qa qn qc] 32))
  have HM10 := Lib.hid (hm9'.keep hbX (Nat.le_refl _))
  have HB10 := Lib.hid (hb9.trans (hbX.mono hb9.size))
  have hz10 : W9.heap.size < (W9.alloc (.cells #[.slice ka kn kc, .slice oa on oc, .slice pa pn pc, .slice qa qn qc] 32)).heap.size := by simp
  clear hm9' hb9 hbX d0 d1 d2 d3 e0 e1 e2 e3 e4 e5 e6
  go_upto_region 9 with fail
  generalize W9.alloc (.cells #[.slice ka kn kc, .slice oa on oc, .slice pa pn pc, .slice qa qn qc] 32) = W10 at *
  obtain ⟨d0, d1, d2, d3, hx9⟩ := four_cells K12.out
  clear hx9
  go_wp2_with fail
  refine (find_any ⟨⟨ka, kn, kc⟩, ⟨oa, on, oc⟩, ⟨pa, pn, pc⟩, ⟨qa, qn, qc⟩⟩ (pB3 m) 2 3 _ HM10.out (pB3_bkB m)).mono ?_
  rw [puts_f1]
  rintro e W11 ⟨⟨u1, u2, u3, u4, ⟨u5, u6, u7⟩, ⟨u8, u9, u10⟩, ⟨u11, u12, u13⟩⟩, rfl, hl11, hb11⟩
  have hu4 : u4 = m := hl11.last
  subst hu4
  have hbX : Below W11.heap.size W11 (W11.alloc (.cells #[.int .i64 u1, .int .i64 u2, .int .i64 u3, .int .i64 u4, .slice u5 u6 u7, .slice u8 u9 u10, .slice u11 u12 u13] 45)) := (Below.refl _ _).alloc (Nat.le_refl _) _
  have K14 := Lib.hid (heap_alloc_new W11 (.cells #[.int .i64 u1, .int .i64 u2, .int .i64 u3, .int .i64 u4, .slice u5 u6 u7, .slice u8 u9 u10, .slice u11 u12 u13] 45))
  have hb1012 := hb11.trans (hbX.mono hb11.size)
  have HM12 := Lib.hid (HM10.out.keep hb1012 (Nat.le_refl _))
  have K12' := Lib.hid (block_below K12.out hb1012 hz10)
  have HB12 := Lib.hid (HB10.out.trans (hb1012.mono HB10.out.size))
  have hz12 : W11.heap.size < (W11.alloc (.cells #[.int .i64 u1, .int .i64 u2, .int .i64 u3, .int .i64 u4, .slice u5 u6 u7, .slice u8 u9 u10, .slice u11 u12 u13] 45)).heap.size := by simp
  clear hl11 hb11 hbX hb1012 d0 d1 d2 d3 K12 HB10 HM10
  go_upto_region 10 with fail
  generalize W11.alloc (.cells #[.int .i64 u1, .int .i64 u2, .int .i64 u3, .int .i64 u4, .slice u5 u6 u7, .slice u8 u9 u10, .slice u11 u12 u13] 45) = W12 at *
  obtain ⟨d0, d1, d2, d3, hx9⟩ := four_cells K12'.out
  clear hx9
  go_wp2_with fail
  refine (find_any ⟨⟨ka, kn, kc⟩, ⟨oa, on, oc⟩, ⟨pa, pn, pc⟩, ⟨qa, qn, qc⟩⟩ (pB3 u4) 4 1 _ HM12.out (pB3_bkB u4)).mono ?_
  rw [puts_f2]
  rintro e W13 ⟨⟨v1, v2, v3, v4, ⟨v5, v6, v7⟩, ⟨v8, v9, v10⟩, ⟨v11, v12, v13⟩⟩, rfl, hl13, hb13⟩
  have hv3 : v3 = 60 := hl13.unt
  have hv4 : v4 = -1 := hl13.last
  subst hv3 hv4
  have hbX : Below W13.heap.size W13 (W13.alloc (.cells #[.int .i64 v1, .int .i64 v2, .int .i64 60, .int .i64 (-1), .slice v5 v6 v7, .slice v8 v9 v10, .slice v11 v12 v13] 45)) := (Below.refl _ _).alloc (Nat.le_refl _) _
  have k16 := heap_alloc_new W13 (.cells #[.int .i64 v1, .int .i64 v2, .int .i64 60, .int .i64 (-1), .slice v5 v6 v7, .slice v8 v9 v10, .slice v11 v12 v13] 45)
  have hb1214 := hb13.trans (hbX.mono hb13.size)
  have k14 := block_below K14.out hb1214 hz12
  have HB14 := Lib.hid (HB12.out.trans (hb1214.mono HB12.out.size))
  clear hl13 hb13 hbX hb1214 d0 d1 d2 d3 K12' HB12 HM12 K14
  go_upto_region 11 with fail
  generalize W13.alloc (.cells #[.int .i64 v1, .int .i64 v2, .int .i64 60, .int .i64 (-1), .slice v5 v6 v7, .slice v8 v9 v10, .slice v11 v12 v13] 45) = W14 at *
  have k8 := block_below K8.out HB14.out (by omega)
  have K8b := Lib.hid k8
  obtain ⟨e0, e1, e2, e3, e4, e5, e6, hx9⟩ := seven_cells k8
  obtain ⟨a0, a1, a2, a3, a4, a5, a6, hx8⟩ := seven_cells k14
  obtain ⟨c0, c1, c2, c3, c4, c5, c6, hx7⟩ := seven_cells k16
  obtain ⟨n0, n1, n2, n3, n4, n5, n6, hx6⟩ := seven_cells (block_below K10'.out HB14.out hz8)
  have fz0 := seven_free k8 0
  have fz1 := seven_free k8 1
  clear hx9 hx8 hx7 hx6 k8 k14 k16
  go_upto_region 13 with fail
  have hd0 := Int.emod_nonneg dev (show (6 : Int) ≠ 0 by omega)
  have hd6 := Int.emod_lt_of_pos dev (show (0 : Int) < 6 by omega)
  have hq0 := Int.emod_nonneg ep (show (5 : Int) ≠ 0 by omega)
  have hq5 := Int.emod_lt_of_pos ep (show (0 : Int) < 5 by omega)
  go_wp2_with fail
  refine (wi_any dev 6 _ (by omega) (by omega)).mono ?_
  rintro e wq ⟨rfl, rfl⟩
  go_wp2_with fail
  refine (wi_any ep 5 _ (by omega) (by omega)).mono ?_
  rintro e wq ⟨rfl, rfl⟩
  generalize dev % 6 = d at *
  generalize ep % 5 = f at *
  have hb15 := ((HB8.out.trans (HB14.out.mono HB8.out.size)).setCell (p := ⟨W3.heap.size + 1, 0, none⟩) (by simp) (.int .i64 d)).setCell (p := ⟨W3.heap.size + 1, 1, none⟩) (by simp) (.int .i64 (1 + f))
  have HB15 := Lib.hid hb15
  have K8c : Hid (((W14.setCell ⟨W3.heap.size + 1, 0, none⟩ (.int .i64 d)).setCell ⟨W3.heap.size + 1, 1, none⟩ (.int .i64 (1 + f))).heap[W3.heap.size + 1]? = some (.cells #[.int .i64 d, .int .i64 (1 + f), .int .i64 50, .int .i64 u4, .slice y5 y6 y7, .slice y8 y9 y10, .slice y11 y12 y13] 45 (0, 0))) := Lib.hid (by simp [World.setCell, Array.getElem?_modify, K8b.out])
  have K7c := Lib.hid ((set_ne2 W14 (W3.heap.size + 1) W3.heap.size (by omega) 0 1 (.int .i64 d) (.int .i64 (1 + f))).trans (block_below K7.out HB14.out (by omega)))
  have hmk : BkO W14 W5.heap.size C ⟨⟨ga, gn, gc⟩, ⟨ha, hn, hc⟩, ⟨ia, i_n, ic⟩, ⟨ja, jn, jc⟩⟩ pB2 xs := HM8.out.keep HB14.out
  have HM15 := Lib.hid ((hmk.put hC6 ⟨W3.heap.size + 1, 0, none⟩ (by simp; omega) (.int .i64 d)).put hC6 ⟨W3.heap.size + 1, 1, none⟩ (by simp; omega) (.int .i64 (1 + f)))
  have HL15 : Hid (LsM ((W14.setCell ⟨W3.heap.size + 1, 0, none⟩ (.int .i64 d)).setCell ⟨W3.heap.size + 1, 1, none⟩ (.int .i64 (1 + f))) ⟨d, 1 + f, 50, u4, ⟨y5, y6, y7⟩, ⟨y8, y9, y10⟩, ⟨y11, y12, y13⟩⟩ (pLm d (1 + f) u4)) := Lib.hid (by
    have h := HL3.out.keep hb15 (Nat.le_refl _)
    exact ⟨rfl, rfl, rfl, rfl, h.s, h.i, h.u⟩)
  have HBW15 := Lib.hid (HBW3.out.trans (hb15.mono HBW3.out.size))
  go_upto_region 14 with fail
  generalize (W14.setCell ⟨W3.heap.size + 1, 0, none⟩ (.int .i64 d)).setCell ⟨W3.heap.size + 1, 1, none⟩ (.int .i64 (1 + f)) = W15 at *
  clear e0 e1 e2 e3 e4 e5 e6 a0 a1 a2 a3 a4 a5 a6 c0 c1 c2 c3 c4 c5 c6 n0 n1 n2 n3 n4 n5 n6 fz0 fz1 hb15 hmk
  obtain ⟨e0, e1, e2, e3, e4, e5, e6, hx9⟩ := seven_cells K8c.out
  obtain ⟨d0, d1, d2, d3, hx8⟩ := four_cells K7c.out
  clear hx9 hx8
  by_cases g1 : d = 2 ∧ 1 + f = 3
  · obtain ⟨rfl, g2⟩ := g1
    have g3 : f = 2 := by omega
    subst g3
    go_wp2
    go_ret
    exact ⟨rfl, HBW15.out⟩
  · by_cases g2 : d = 4 ∧ 1 + f = 1
    · obtain ⟨rfl, g3⟩ := g2
      have g4 : f = 0 := by omega
      subst g4
      go_wp2
      go_ret
      exact ⟨rfl, HBW15.out⟩
    · have HNO := Lib.hid (puts_no d (1 + f) u4 g1 g2)
      have h3 : (d = 2 ∧ ¬ 1 + f = 3) ∨ (¬ d = 2 ∧ d = 4 ∧ ¬ 1 + f = 1) ∨ (¬ d = 2 ∧ ¬ d = 4) := by omega
      clear g1 g2
      rcases h3 with ⟨t1, t2⟩ | ⟨t1, t2, t3⟩ | ⟨t1, t2⟩
      case' inl => (have s1 : (d == 2) = true := by simpa using t1); (have s2 : (1 + f == 3) = false := by simpa using t2); (have s3 : (d == 4) = false := by simp; omega); clear t1 t2
      case' inr.inl => (have s1 : (d == 2) = false := by simpa using t1); (have s3 : (d == 4) = true := by simpa using t2); (have s4 : (1 + f == 1) = false := by simp only [beq_eq_false_iff_ne, ne_eq]; exact t3); clear t1 t2 t3
      case' inr.inr => (have s1 : (d == 2) = false := by simpa using t1); (have s3 : (d == 4) = false := by simpa using t2); clear t1 t2
      all_goals
        go_wp2_with fail
        refine (put_any ⟨⟨ga, gn, gc⟩, ⟨ha, hn, hc⟩, ⟨ia, i_n, ic⟩, ⟨ja, jn, jc⟩⟩ pB2 ⟨d, 1 + f, 50, u4, ⟨y5, y6, y7⟩, ⟨y8, y9, y10⟩, ⟨y11, y12, y13⟩⟩ (pLm d (1 + f) u4) _ HM15.out.m pB2_bkB HL15.out (p_lsB (.inr (.inr ⟨_, _, _, rfl⟩)))).mono ?_
        rw [HNO.out]
        rintro e W16 ⟨⟨⟨ka, kn, kc⟩, ⟨oa, on, oc⟩, ⟨pa, pn, pc⟩, ⟨qa, qn, qc⟩⟩, rfl, hm16, hb16⟩
        have hbX : Below W16.heap.size W16 (W16.alloc (.cells #[.slice ka kn kc, .slice oa on oc, .slice pa pn pc, .slice qa qn qc] 32)) := (Below.refl _ _).alloc (Nat.le_refl _) _
        have HM17 := Lib.hid (hm16.keep hbX (Nat.le_refl _))
        have hb17 := hb16.trans (hbX.mono hb16.size)
        have HM17' := Lib.hid (HM15.out.m.keep hb17 (Nat.le_refl _))
        have k7 := block_below K7c.out hb17 (Array.getElem?_eq_some_iff.1 K7c.out).1
        have HB17 := Lib.hid (HBW15.out.trans (hb17.mono HBW15.out.size))
        have k18 := heap_alloc_new W16 (.cells #[.slice ka kn kc, .slice oa on oc, .slice pa pn pc, .slice qa qn qc] 32)
        clear hm16 hb16 hbX hb17 d0 d1 d2 d3 e0 e1 e2 e3 e4 e5 e6
        go_upto_region 19 with fail
        generalize W16.alloc (.cells #[.slice ka kn kc, .slice oa on oc, .slice pa pn pc, .slice qa qn qc] 32) = W17 at *
        obtain ⟨d0, d1, d2, d3, hx9⟩ := four_cells k7
        obtain ⟨a0, a1, a2, a3, hx8⟩ := four_cells k18
        clear hx9 hx8 k7 k18
        go_wp2_with fail
        refine (lsame_any ⟨⟨ka, kn, kc⟩, ⟨oa, on, oc⟩, ⟨pa, pn, pc⟩, ⟨qa, qn, qc⟩⟩ ⟨⟨ga, gn, gc⟩, ⟨ha, hn, hc⟩, ⟨ia, i_n, ic⟩, ⟨ja, jn, jc⟩⟩ pB2 pB2 _ HM17.out HM17'.out).mono ?_
        rintro e W18 ⟨rfl, hb18⟩
        rw [show decide (pB2 = pB2) = true by simp]
        have hfin := HB17.out.trans (hb18.mono HB17.out.size)
        clear hb18
        go_wp2
        go_ret
        exact ⟨rfl, hfin⟩

end Go.Proofs.Ytckonmlcgfbojaa
