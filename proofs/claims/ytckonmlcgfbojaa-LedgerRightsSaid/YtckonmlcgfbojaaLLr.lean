/- The walk of LedgerRights. -/
import Derived.Test.YtckonmlcgfbojaaLRi
namespace Go.Proofs.Ytckonmlcgfbojaa
open Go.RowKit

theorem below_set4 {W6 WB : World} (hb : Below W6.heap.size W6 WB) (p : Nat) (a b c d : Value) :
    Below W6.heap.size ((((W6.setCell ⟨p, 0, none⟩ a).setCell ⟨p, 1, none⟩ b).setCell ⟨p, 2, none⟩ c).setCell ⟨p, 3, none⟩ d) ((((WB.setCell ⟨p, 0, none⟩ a).setCell ⟨p, 1, none⟩ b).setCell ⟨p, 2, none⟩ c).setCell ⟨p, 3, none⟩ d) :=
  ⟨hb.os, hb.tape, hb.output, by rw [size_set4, size_set4]; exact hb.size, fun k hk => by simp [World.setCell, Array.getElem?_modify, hb.block k hk]⟩
theorem wi_small (n : Int) (hn : 0 < n) (hn2 : n ≤ 100) (a : Int) (w : World) : Calls Try.prog 11 #[.int .i64 a, .int .i64 n] w fun e w' => (∃ r : Int, 0 ≤ r ∧ r < n ∧ e = .returned (.int .i64 r)) ∧ w = w' :=
  (wi_any a n w hn (by omega)).mono fun _ _ ⟨h1, h2⟩ => ⟨⟨a % n, Int.emod_nonneg a (by omega), Int.emod_lt_of_pos a hn, h1⟩, h2⟩

/-- At the head of the devices' loop. -/
def RO (w : World) (p5 d : Nat) (left gr : Int) (wr : World) : Prop := ∃ (ls : List Ls) (x : BkC), RI d left gr ls ∧ BkM wr x (rBk left ls) ∧ wr.heap[p5]? = some (.cells #[x.c.v, x.f.v, x.l.v, x.b.v] 32 (0, 0)) ∧ Below w.heap.size w wr
/-- At the head of the spends' loop. -/
def RN (W5 : World) (p11 d : Nat) (n u : Int) (wr : World) : Prop := ∃ y : LsC, LsM wr y (rLs d n u) ∧ wr.heap[p11]? = some (.cells #[.int .i64 y.dev, .int .i64 y.epoch, .int .i64 y.unt, .int .i64 y.last, y.s.v, y.i.v, y.u.v] 45 (0, 0)) ∧ Below W5.heap.size W5 wr ∧ 0 ≤ u ∧ u ≤ n

set_option maxRecDepth 100000 in
set_option maxHeartbeats 16000000 in
theorem rights_walk (v0 v1 : Value) (zs0 zs1 : List Int) (w : World) (h0 : SlI w v0 zs0) (h1 : SlI w v1 zs1) : Calls Try.prog 8 #[v0, v1] w fun e w' => e = .returned (.bool true) ∧ Below w.heap.size w w' := by
  obtain ⟨ao, cap, rfl, hcap, hcm⟩ := Sl.shape h0
  obtain ⟨ao', cap', rfl, hcap', hcm'⟩ := Sl.shape h1
  have H0 := Lib.hid h0
  have H1 := Lib.hid h1
  clear h0 h1
  go_enter Try.func8, Try.ntmps8
  go_wp2_with fail
  refine (known_any _).mono ?_
  rintro e w1 ⟨rfl, hb1⟩
  go_wp2_with fail
  refine (begin_any _).mono ?_
  rintro e W2 ⟨⟨⟨ca, cn, cc⟩, ⟨fa, fn, fc⟩, ⟨la, ln, lc⟩, ⟨ba, bn, bc⟩⟩, rfl, hm2, hb2⟩
  have hbA : Below W2.heap.size W2 (W2.alloc (.cells #[.slice ca cn cc, .slice fa fn fc, .slice la ln lc, .slice ba bn bc] 32)) := (Below.refl _ _).alloc (Nat.le_refl _) _
  have hbw2 := hb1.trans (hb2.mono hb1.size)
  have HRO : Hid (RO w W2.heap.size 0 10 0 (W2.alloc (.cells #[.slice ca cn cc, .slice fa fn fc, .slice la ln lc, .slice ba bn bc] 32))) := Lib.hid ⟨[], ⟨⟨ca, cn, cc⟩, ⟨fa, fn, fc⟩, ⟨la, ln, lc⟩, ⟨ba, bn, bc⟩⟩, RI.start, hm2.keep hbA (Nat.le_refl _), heap_alloc_new _ _, hbw2.trans (hbA.mono hbw2.size)⟩
  have hp5 : w.heap.size ≤ W2.heap.size := hbw2.size
  clear hm2 hb2 hb1 hbA hbw2
  go_upto_block 0 with fail
  generalize W2.alloc (.cells #[.slice ca cn cc, .slice fa fn fc, .slice la ln lc, .slice ba bn bc] 32) = W3 at *
  generalize W2.heap.size = p5 at *
  go_cut [6, 7] (fun v6 v7 wx => ∃ (left gr : Int), v6 = .int .i64 gr ∧ v7 = .int .i64 left ∧ ∃ d : Nat, d ≤ 6 ∧ RO w p5 d left gr wx)
  case first =>
    go_wp2
    go_loopw [6, 7, 8] (fun v6 v7 v8 wr => ∃ (d : Nat) (left gr : Int), d ≤ 6 ∧ v6 = .int .i64 gr ∧ v7 = .int .i64 left ∧ v8 = .int .i64 d ∧ RO w p5 d left gr wr) (fun _ _ v8 _ => 6 - (intOf v8).toNat)
    case atStart => exact ⟨0, 10, 0, by omega, rfl, rfl, rfl, HRO.out⟩
    case round =>
      clear HRO
      obtain ⟨d, left, gr, hd6, rfl, rfl, rfl, hro⟩ := hrel
      obtain ⟨ls, ⟨⟨ca, cn, cc⟩, ⟨fa, fn, fc⟩, ⟨la, ln, lc⟩, ⟨ba, bn, bc⟩⟩, hri, hm, hk5, hbr⟩ := hro
      have HRI := Lib.hid hri
      have HM := Lib.hid hm
      have HK5 := Lib.hid hk5
      have HBR := Lib.hid hbr
      have hz5 : p5 < wr.heap.size := (Array.getElem?_eq_some_iff.1 hk5).1
      obtain ⟨hl0, hl1⟩ : 0 ≤ left ∧ left ≤ 10 := ⟨hri.l0, by have := hri.sum; have := hri.g0; omega⟩
      obtain ⟨hg0, hg1⟩ : 0 ≤ gr ∧ gr ≤ 10 := ⟨hri.g0, by have := hri.sum; omega⟩
      clear hri hm hk5
      by_cases hlt : d < zs0.length ∧ d < 6
      · obtain ⟨hd1, hd2⟩ := hlt
        obtain ⟨ub, uo, rfl, hub, cu⟩ := SlI.cell H0.out hbr (Nat.le_refl _) d hd1
        have dlt : (d : Int) < zs0.length := by omega
        have dlt2 : (d : Int) < 6 := by omega
        obtain ⟨d0, d1, d2, d3, hx9⟩ := four_cells HK5.out
        clear hx9 hbr
        generalize zs0[d] = z at *
        go_wp2_with fail
        refine (wi_small 8 (by omega) (by omega) z _).mono ?_
        rintro e wq ⟨⟨n, hn0, hn8, rfl⟩, rfl⟩
        have hbA : Below wr.heap.size wr (wr.alloc (.cells #[.string ⟨#[97]⟩, .int .i64 n, .int .i64 0, .int .i64 0] 49)) := (Below.refl _ _).alloc (Nat.le_refl _) _
        have HMA := Lib.hid (HM.out.keep hbA (Nat.le_refl _))
        have HV := Lib.hid (slWn_one (heap_alloc_new wr (.cells #[.string ⟨#[97]⟩, .int .i64 n, .int .i64 0, .int .i64 0] 49)))
        have K5A := Lib.hid (block_below HK5.out hbA hz5)
        have HBA := Lib.hid (HBR.out.trans (hbA.mono HBR.out.size))
        have hzA : wr.heap.size < (wr.alloc (.cells #[.string ⟨#[97]⟩, .int .i64 n, .int .i64 0, .int .i64 0] 49)).heap.size := by simp
        clear hbA
        by_cases hn : n ≤ left
        · go_wp2_with fail
          generalize wr.alloc (.cells #[.string ⟨#[97]⟩, .int .i64 n, .int .i64 0, .int .i64 0] 49) = WA at *
          refine (grant_own ⟨⟨ca, cn, cc⟩, ⟨fa, fn, fc⟩, ⟨la, ln, lc⟩, ⟨ba, bn, bc⟩⟩ (rBk left ls) d 1 50 _ [⟨⟨#[97]⟩, n, 0, 0⟩] _ HMA.out (HRI.out.grB hd6) HV.out).mono ?_
          rw [r_grant_yes HRI.out hd2 hn0 (by omega) hn]
          rintro e W6 ⟨⟨⟨ga, gn, gc⟩, ⟨ha, hn', hc⟩, ⟨ia, i_n, ic⟩, ⟨ja, jn, jc⟩⟩, ⟨y1, y2, y3, y4, ⟨y5, y6, y7⟩, ⟨y8, y9, y10⟩, ⟨y11, y12, y13⟩⟩, xs, C, rfl, hm6, hC6, hl6, hb6⟩
          have hb6B : Below W6.heap.size W6 ((W6.alloc (.cells #[.slice ga gn gc, .slice ha hn' hc, .slice ia i_n ic, .slice ja jn jc] 32)).alloc (.cells #[.int .i64 y1, .int .i64 y2, .int .i64 y3, .int .i64 y4, .slice y5 y6 y7, .slice y8 y9 y10, .slice y11 y12 y13] 45)) := ((Below.refl _ _).alloc (Nat.le_refl _) _).alloc (by simp) _
          have k10 := alloc_first W6 (.cells #[.slice ga gn gc, .slice ha hn' hc, .slice ia i_n ic, .slice ja jn jc] 32) (.cells #[.int .i64 y1, .int .i64 y2, .int .i64 y3, .int .i64 y4, .slice y5 y6 y7, .slice y8 y9 y10, .slice y11 y12 y13] 45)
          have k11 := alloc_second W6 (.cells #[.slice ga gn gc, .slice ha hn' hc, .slice ia i_n ic, .slice ja jn jc] 32) (.cells #[.int .i64 y1, .int .i64 y2, .int .i64 y3, .int .i64 y4, .slice y5 y6 y7, .slice y8 y9 y10, .slice y11 y12 y13] 45)
          have hpA : p5 < WA.heap.size := by omega
          have hs6 := hb6.size
          have k5 := block_below K5A.out hb6 hpA
          have k5B := block_below k5 hb6B (by omega)
          have HM5 := Lib.hid ((((hm6.put hC6 ⟨p5, 0, none⟩ hpA (.slice ga gn gc)).put hC6 ⟨p5, 1, none⟩ hpA (.slice ha hn' hc)).put hC6 ⟨p5, 2, none⟩ hpA (.slice ia i_n ic)).put hC6 ⟨p5, 3, none⟩ hpA (.slice ja jn jc)).m
          have K5' := Lib.hid (set_four k5 (.slice ga gn gc) (.slice ha hn' hc) (.slice ia i_n ic) (.slice ja jn jc))
          have HBW6 := Lib.hid (HBA.out.trans (hb6.mono HBA.out.size))
          have HL6 := Lib.hid (hl6.m.keep hb6B (Nat.le_refl _))
          have HL6' := Lib.hid hl6
          have HB6B := Lib.hid hb6B
          clear d0 d1 d2 d3 cu hm6 hl6 hb6 hb6B k5 HMA HV K5A HBA
          go_upto_region 13 with fail
          generalize (W6.alloc (.cells #[.slice ga gn gc, .slice ha hn' hc, .slice ia i_n ic, .slice ja jn jc] 32)).alloc (.cells #[.int .i64 y1, .int .i64 y2, .int .i64 y3, .int .i64 y4, .slice y5 y6 y7, .slice y8 y9 y10, .slice y11 y12 y13] 45) = WB at *
          obtain ⟨d0, d1, d2, d3, hx9⟩ := four_cells k5B
          have f0 := four_free k5B 0
          have f1 := four_free k5B 1
          have f2 := four_free k5B 2
          have f3 := four_free k5B 3
          obtain ⟨e0, e1, e2, e3, hx8⟩ := four_cells k10
          have i1 : IntKind.i64.wrap (left - n) = left - n := IntWalk.i64_in _ (by omega)
          have i2 : IntKind.i64.wrap (gr + n) = gr + n := IntWalk.i64_in _ (by omega)
          clear hx9 hx8
          go_still_tail 9, (by kernel_rfl)
          change wpList _ _ _ _ _ WB.drew
          go_upto_region 14 with fail
          have hs5 : ((((W6.setCell ⟨p5, 0, none⟩ (.slice ga gn gc)).setCell ⟨p5, 1, none⟩ (.slice ha hn' hc)).setCell ⟨p5, 2, none⟩ (.slice ia i_n ic)).setCell ⟨p5, 3, none⟩ (.slice ja jn jc)).heap.size = W6.heap.size := size_set4 _ _ _ _ _ _ _ _ _
          have hb57 : Below W6.heap.size ((((W6.setCell ⟨p5, 0, none⟩ (.slice ga gn gc)).setCell ⟨p5, 1, none⟩ (.slice ha hn' hc)).setCell ⟨p5, 2, none⟩ (.slice ia i_n ic)).setCell ⟨p5, 3, none⟩ (.slice ja jn jc)) ((((WB.setCell ⟨p5, 0, none⟩ (.slice ga gn gc)).setCell ⟨p5, 1, none⟩ (.slice ha hn' hc)).setCell ⟨p5, 2, none⟩ (.slice ia i_n ic)).setCell ⟨p5, 3, none⟩ (.slice ja jn jc)).drew := (below_set4 HB6B.out p5 _ _ _ _).drew
          have k11' : ((((WB.setCell ⟨p5, 0, none⟩ (.slice ga gn gc)).setCell ⟨p5, 1, none⟩ (.slice ha hn' hc)).setCell ⟨p5, 2, none⟩ (.slice ia i_n ic)).setCell ⟨p5, 3, none⟩ (.slice ja jn jc)).drew.heap[W6.heap.size + 1]? = some (.cells #[.int .i64 y1, .int .i64 y2, .int .i64 y3, .int .i64 y4, .slice y5 y6 y7, .slice y8 y9 y10, .slice y11 y12 y13] 45 (0, 0)) := (set_other4 WB p5 (W6.heap.size + 1) (by omega) (.slice ga gn gc) (.slice ha hn' hc) (.slice ia i_n ic) (.slice ja jn jc) 0 1 2 3).trans k11
          have hl7 := ((((HL6'.out.keep HB6B.out (Nat.le_refl _)).put ⟨p5, 0, none⟩ hpA (.slice ga gn gc)).put ⟨p5, 1, none⟩ hpA (.slice ha hn' hc)).put ⟨p5, 2, none⟩ hpA (.slice ia i_n ic)).put ⟨p5, 3, none⟩ hpA (.slice ja jn jc)
          have hl7' := hl7.m.keep (Below.refl _ _).drew (Nat.le_refl _)
          have hbw5 := ((((HBW6.out.setCell (p := ⟨p5, 0, none⟩) hp5 (.slice ga gn gc)).setCell (p := ⟨p5, 1, none⟩) hp5 (.slice ha hn' hc)).setCell (p := ⟨p5, 2, none⟩) hp5 (.slice ia i_n ic)).setCell (p := ⟨p5, 3, none⟩) hp5 (.slice ja jn jc))
          have HW5 := Lib.hid hbw5
          generalize ((((WB.setCell ⟨p5, 0, none⟩ (.slice ga gn gc)).setCell ⟨p5, 1, none⟩ (.slice ha hn' hc)).setCell ⟨p5, 2, none⟩ (.slice ia i_n ic)).setCell ⟨p5, 3, none⟩ (.slice ja jn jc)).drew = W7 at *
          clear hl7 hbw5 d0 d1 d2 d3 f0 f1 f2 f3 e0 e1 e2 e3 i1 i2 k10 k11 k5B HL6 HL6' HB6B HBW6
          generalize (((W6.setCell ⟨p5, 0, none⟩ (.slice ga gn gc)).setCell ⟨p5, 1, none⟩ (.slice ha hn' hc)).setCell ⟨p5, 2, none⟩ (.slice ia i_n ic)).setCell ⟨p5, 3, none⟩ (.slice ja jn jc) = W5 at *
          have hp56 : p5 < W6.heap.size := by omega
          rw [← hs5] at hb57 k11' hp56 ⊢
          clear hs5
          have hp11 : W5.heap.size ≤ W5.heap.size + 1 := by omega
          generalize hp11' : W5.heap.size + 1 = p11 at *
          clear hp11'
          have HRN : Hid (RN W5 p11 d n 0 W7) := Lib.hid ⟨⟨y1, y2, y3, y4, ⟨y5, y6, y7⟩, ⟨y8, y9, y10⟩, ⟨y11, y12, y13⟩⟩, hl7', k11', hb57, by omega, hn0⟩
          clear hl7' k11' hb57
          go_upto_block 2 with fail
          go_cut [] (fun wx => ∃ u, RN W5 p11 d n u wx)
          case first =>
            go_wp2
            go_loopw [13, 14] (fun v13 v14 wq => ∃ (k : Nat) (u : Int), k ≤ 10 ∧ v13 = .int .i64 u ∧ v14 = .int .i64 k ∧ RN W5 p11 d n u wq) (fun _ v14 _ => 10 - (intOf v14).toNat)
            case atStart => exact ⟨0, 0, by omega, rfl, rfl, HRN.out⟩
            case round =>
              clear HRN
              obtain ⟨k, u, hk10, rfl, rfl, hrn⟩ := hrel
              have HRNk := Lib.hid hrn
              obtain ⟨⟨y1, y2, y3, y4, ⟨y5, y6, y7⟩, ⟨y8, y9, y10⟩, ⟨y11, y12, y13⟩⟩, hy, hk11, hbq, hu0, hun⟩ := hrn
              have HY := Lib.hid hy
              have HK11 := Lib.hid hk11
              have HBQ := Lib.hid hbq
              have hz11 := (Array.getElem?_eq_some_iff.1 hk11).1
              clear hy hk11
              by_cases hkk : k < zs1.length ∧ k < 10
              · obtain ⟨hk1, hk2⟩ := hkk
                obtain ⟨vb, vo, rfl, hvb, cv⟩ := SlI.cell H1.out (HW5.out.trans (hbq.mono HW5.out.size)) (Nat.le_refl _) k hk1
                have klt : (k : Int) < zs1.length := by omega
                have klt2 : (k : Int) < 10 := by omega
                generalize zs1[k] = zz at *
                clear hbq
                go_wp2_with fail
                refine (wi_small 4 (by omega) (by omega) _ _).mono ?_
                rintro e wq' ⟨⟨r, hr0, hr4, rfl⟩, rfl⟩
                obtain ⟨d0, d1, d2, d3, d4, d5, d6, hx9⟩ := seven_cells HK11.out
                clear hx9 cv
                go_wp2_with fail
                by_cases hs : u + (1 + r) ≤ n
                · refine (spend_own ⟨y1, y2, y3, y4, ⟨y5, y6, y7⟩, ⟨y8, y9, y10⟩, ⟨y11, y12, y13⟩⟩ (rLs d n u) ⟨d, 1, 1, 0, 1, 4, ⟨#[97]⟩, ⟨#[]⟩, 1 + r, 0, ⟨none, 0, 0⟩⟩ _ HY.out (r_spB (s := 1 + r) hu0 hun (by omega) (by omega))).mono ?_
                  simp only [r_spend_yes (d := d) (show 0 < 1 + r by omega) hs]
                  rintro e U1 ⟨⟨z1, z2, z3, z4, ⟨z5, z6, z7⟩, ⟨z8, z9, z10⟩, ⟨z11, z12, z13⟩⟩, rfl, hlz, hbz⟩
                  have hbX : Below U1.heap.size U1 (U1.alloc (.cells #[.int .i64 z1, .int .i64 z2, .int .i64 z3, .int .i64 z4, .slice z5 z6 z7, .slice z8 z9 z10, .slice z11 z12 z13] 45)) := (Below.refl _ _).alloc (Nat.le_refl _) _
                  have k16 := heap_alloc_new U1 (.cells #[.int .i64 z1, .int .i64 z2, .int .i64 z3, .int .i64 z4, .slice z5 z6 z7, .slice z8 z9 z10, .slice z11 z12 z13] 45)
                  have hbY := hbz.trans (hbX.mono hbz.size)
                  have k11 := block_below HK11.out hbY hz11
                  have hlY := hlz.keep hbX (Nat.le_refl _)
                  have HFL := Lib.hid (((((((hlY.put ⟨p11, 0, none⟩ hz11 (.int .i64 z1)).put ⟨p11, 1, none⟩ hz11 (.int .i64 z2)).put ⟨p11, 2, none⟩ hz11 (.int .i64 z3)).put ⟨p11, 3, none⟩ hz11 (.int .i64 z4)).put ⟨p11, 4, none⟩ hz11 (.slice z5 z6 z7)).put ⟨p11, 5, none⟩ hz11 (.slice z8 z9 z10)).put ⟨p11, 6, none⟩ hz11 (.slice z11 z12 z13)).m
                  have HFK := Lib.hid (set_all7 k11 (.int .i64 z1) (.int .i64 z2) (.int .i64 z3) (.int .i64 z4) (.slice z5 z6 z7) (.slice z8 z9 z10) (.slice z11 z12 z13))
                  have HFB := Lib.hid (((((((((HBQ.out.trans (hbY.mono HBQ.out.size)).setCell (p := ⟨p11, 0, none⟩) hp11 (.int .i64 z1)).setCell (p := ⟨p11, 1, none⟩) hp11 (.int .i64 z2)).setCell (p := ⟨p11, 2, none⟩) hp11 (.int .i64 z3)).setCell (p := ⟨p11, 3, none⟩) hp11 (.int .i64 z4)).setCell (p := ⟨p11, 4, none⟩) hp11 (.slice z5 z6 z7)).setCell (p := ⟨p11, 5, none⟩) hp11 (.slice z8 z9 z10)).setCell (p := ⟨p11, 6, none⟩) hp11 (.slice z11 z12 z13)))
                  have hszz : p11 < U1.heap.size := by have := hbz.size; omega
                  clear d0 d1 d2 d3 d4 d5 d6 hbX hbY hlz hbz hlY
                  go_upto_region 20 with fail
                  generalize U1.alloc (.cells #[.int .i64 z1, .int .i64 z2, .int .i64 z3, .int .i64 z4, .slice z5 z6 z7, .slice z8 z9 z10, .slice z11 z12 z13] 45) = U2 at *
                  obtain ⟨d0, d1, d2, d3, d4, d5, d6, hx9⟩ := seven_cells k11
                  obtain ⟨e0, e1, e2, e3, e4, e5, e6, hx8⟩ := seven_cells k16
                  have f0 := seven_free k11 0
                  have f1 := seven_free k11 1
                  have f2 := seven_free k11 2
                  have f3 := seven_free k11 3
                  have f4 := seven_free k11 4
                  have f5 := seven_free k11 5
                  have f6 := seven_free k11 6
                  clear hx9 hx8 k11 k16
                  go_wp2
                  go_roundw
                  case rel => exact ⟨k + 1, u + (1 + r), by omega, by first | rfl | go_num, by go_num, ⟨⟨z1, z2, z3, z4, ⟨z5, z6, z7⟩, ⟨z8, z9, z10⟩, ⟨z11, z12, z13⟩⟩, HFL.out, HFK.out, HFB.out, by omega, hs⟩⟩
                  case measure => simp [intOf]; omega
                · refine (spend_own ⟨y1, y2, y3, y4, ⟨y5, y6, y7⟩, ⟨y8, y9, y10⟩, ⟨y11, y12, y13⟩⟩ (rLs d n u) ⟨d, 1, 1, 0, 1, 4, ⟨#[97]⟩, ⟨#[]⟩, 1 + r, 0, ⟨none, 0, 0⟩⟩ _ HY.out (r_spB (s := 1 + r) hu0 hun (by omega) (by omega))).mono ?_
                  simp only [r_spend_no (d := d) hs]
                  rintro e U1 ⟨⟨z1, z2, z3, z4, ⟨z5, z6, z7⟩, ⟨z8, z9, z10⟩, ⟨z11, z12, z13⟩⟩, rfl, hlz, hbz⟩
                  have hbX : Below U1.heap.size U1 (U1.alloc (.cells #[.int .i64 z1, .int .i64 z2, .int .i64 z3, .int .i64 z4, .slice z5 z6 z7, .slice z8 z9 z10, .slice z11 z12 z13] 45)) := (Below.refl _ _).alloc (Nat.le_refl _) _
                  have hbY := hbz.trans (hbX.mono hbz.size)
                  have HFL := Lib.hid (HY.out.keep hbY (Nat.le_refl _))
                  have HFK := Lib.hid (block_below HK11.out hbY hz11)
                  have HFB := Lib.hid (HBQ.out.trans (hbY.mono HBQ.out.size))
                  clear d0 d1 d2 d3 d4 d5 d6 hbX hbY hlz hbz
                  go_wp2
                  go_roundw
                  case rel => exact ⟨k + 1, u, by omega, rfl, by go_num, ⟨⟨y1, y2, y3, y4, ⟨y5, y6, y7⟩, ⟨y8, y9, y10⟩, ⟨y11, y12, y13⟩⟩, HFL.out, HFK.out, HFB.out, hu0, hun⟩⟩
                  case measure => simp [intOf]; omega
              · clear hbq HY HK11 HBQ
                by_cases hk1 : k < zs1.length
                · have hk2 : k = 10 := by omega
                  subst hk2
                  have klt : ((10 : Nat) : Int) < zs1.length := by omega
                  go_wp2
                  go_meet
                  exact ⟨u, HRNk.out⟩
                · have klt : ¬ (k : Int) < zs1.length := by omega
                  go_wp2
                  go_meet
                  exact ⟨u, HRNk.out⟩
          case rest =>
          obtain ⟨u, ⟨y1, y2, y3, y4, ⟨y5, y6, y7⟩, ⟨y8, y9, y10⟩, ⟨y11, y12, y13⟩⟩, hy, hk11, hbq, hu0, hun⟩ := hcut
          obtain ⟨W8, hW8⟩ : ∃ W8, W8 = wc := ⟨_, rfl⟩
          subst hW8
          have hk5 := block_below K5'.out hbq hp56
          obtain ⟨d0, d1, d2, d3, hx9⟩ := four_cells hk5
          obtain ⟨e0, e1, e2, e3, e4, e5, e6, hx8⟩ := seven_cells hk11
          have HMP := Lib.hid (HM5.out.keep hbq (Nat.le_refl _))
          have HYP := Lib.hid hy
          have HK5P := Lib.hid hk5
          have HBWP := Lib.hid (HW5.out.trans (hbq.mono HW5.out.size))
          have hz58 : p5 < W8.heap.size := by have := hbq.size; omega
          have hstep := RI.step HRI.out hu0 hun (show n ≤ 7 by omega) hn
          have HSTEP := Lib.hid hstep
          have HBKB := Lib.hid (RI.grB (RI.step HRI.out (Int.le_refl 0) hn0 (show n ≤ 7 by omega) hn) (by omega)).bkb
          have HPUT := Lib.hid (r_put (n := n) (u := u) (lf := left - n) HRI.out)
          clear hx9 hx8 hk5 hk11 hbq hy hstep HRN HM5 K5' HW5
          go_wp2_with fail
          refine (put_own ⟨⟨ga, gn, gc⟩, ⟨ha, hn', hc⟩, ⟨ia, i_n, ic⟩, ⟨ja, jn, jc⟩⟩ (rBk (left - n) (ls ++ [rLs d n 0])) ⟨y1, y2, y3, y4, ⟨y5, y6, y7⟩, ⟨y8, y9, y10⟩, ⟨y11, y12, y13⟩⟩ (rLs d n u) _ HMP.out HBKB.out HYP.out r_lsB).mono ?_
          rw [HPUT.out]
          rintro e W9 ⟨⟨⟨ka, kn, kc⟩, ⟨oa, on, oc⟩, ⟨pa, pn, pc⟩, ⟨qa, qn, qc⟩⟩, xs', C', rfl, hm9, hC9, hb9⟩
          have k5 := block_below HK5P.out hb9 hz58
          have HM9 := Lib.hid ((((hm9.put hC9 ⟨p5, 0, none⟩ hz58 (.slice ka kn kc)).put hC9 ⟨p5, 1, none⟩ hz58 (.slice oa on oc)).put hC9 ⟨p5, 2, none⟩ hz58 (.slice pa pn pc)).put hC9 ⟨p5, 3, none⟩ hz58 (.slice qa qn qc)).m
          have HK9 := Lib.hid (set_four k5 (.slice ka kn kc) (.slice oa on oc) (.slice pa pn pc) (.slice qa qn qc))
          have hbw9 := HBWP.out.trans (hb9.mono HBWP.out.size)
          have HB9 := Lib.hid ((((hbw9.setCell (p := ⟨p5, 0, none⟩) hp5 (.slice ka kn kc)).setCell (p := ⟨p5, 1, none⟩) hp5 (.slice oa on oc)).setCell (p := ⟨p5, 2, none⟩) hp5 (.slice pa pn pc)).setCell (p := ⟨p5, 3, none⟩) hp5 (.slice qa qn qc))
          clear d0 d1 d2 d3 e0 e1 e2 e3 e4 e5 e6 hm9 hb9 hbw9
          obtain ⟨d0, d1, d2, d3, hx9⟩ := four_cells k5
          have f0 := four_free k5 0
          have f1 := four_free k5 1
          have f2 := four_free k5 2
          have f3 := four_free k5 3
          clear hx9 k5
          go_wp2
          go_roundw
          case rel => exact ⟨d + 1, left - n, gr + n, by omega, rfl, rfl, by go_num, ⟨_, ⟨⟨ka, kn, kc⟩, ⟨oa, on, oc⟩, ⟨pa, pn, pc⟩, ⟨qa, qn, qc⟩⟩, HSTEP.out, HM9.out, HK9.out, HB9.out⟩⟩
          case measure => simp [intOf]; omega
        · go_wp2_with fail
          generalize wr.alloc (.cells #[.string ⟨#[97]⟩, .int .i64 n, .int .i64 0, .int .i64 0] 49) = WA at *
          refine (grant_own ⟨⟨ca, cn, cc⟩, ⟨fa, fn, fc⟩, ⟨la, ln, lc⟩, ⟨ba, bn, bc⟩⟩ (rBk left ls) d 1 50 _ [⟨⟨#[97]⟩, n, 0, 0⟩] _ HMA.out (HRI.out.grB hd6) HV.out).mono ?_
          rw [r_grant_no HRI.out hd2 hn0 (by omega) (by omega)]
          rintro e W6 ⟨⟨⟨ga, gn, gc⟩, ⟨ha, hn', hc⟩, ⟨ia, i_n, ic⟩, ⟨ja, jn, jc⟩⟩, ⟨y1, y2, y3, y4, ⟨y5, y6, y7⟩, ⟨y8, y9, y10⟩, ⟨y11, y12, y13⟩⟩, xs, C, rfl, hm6, hC6, hl6, hb6⟩
          have hb6B : Below W6.heap.size W6 ((W6.alloc (.cells #[.slice ga gn gc, .slice ha hn' hc, .slice ia i_n ic, .slice ja jn jc] 32)).alloc (.cells #[.int .i64 y1, .int .i64 y2, .int .i64 y3, .int .i64 y4, .slice y5 y6 y7, .slice y8 y9 y10, .slice y11 y12 y13] 45)) := ((Below.refl _ _).alloc (Nat.le_refl _) _).alloc (by simp) _
          have hbAB := hb6.trans (hb6B.mono hb6.size)
          have HMF := Lib.hid (HMA.out.keep hbAB (Nat.le_refl _))
          have HKF := Lib.hid (block_below K5A.out hbAB (by omega))
          have HBF := Lib.hid (HBA.out.trans (hbAB.mono HBA.out.size))
          clear d0 d1 d2 d3 cu hm6 hl6 hb6 hb6B hbAB HMA HV K5A HBA
          go_wp2
          go_roundw
          case rel => exact ⟨d + 1, left, gr, by omega, rfl, rfl, by go_num, ⟨ls, ⟨⟨ca, cn, cc⟩, ⟨fa, fn, fc⟩, ⟨la, ln, lc⟩, ⟨ba, bn, bc⟩⟩, HRI.out.skip, HMF.out, HKF.out, HBF.out⟩⟩
          case measure => simp [intOf]; omega
      · have HEND : Hid (RO w p5 d left gr wr) := Lib.hid ⟨ls, ⟨⟨ca, cn, cc⟩, ⟨fa, fn, fc⟩, ⟨la, ln, lc⟩, ⟨ba, bn, bc⟩⟩, HRI.out, HM.out, HK5.out, HBR.out⟩
        clear hbr
        by_cases hd1 : d < zs0.length
        · have hd2 : d = 6 := by omega
          subst hd2
          have dlt : ((6 : Nat) : Int) < zs0.length := by omega
          go_wp2
          go_meet
          exact ⟨left, gr, rfl, rfl, 6, by omega, HEND.out⟩
        · have dlt : ¬ (d : Int) < zs0.length := by omega
          go_wp2
          go_meet
          exact ⟨left, gr, rfl, rfl, d, hd6, HEND.out⟩
  case rest =>
  obtain ⟨left, gr, rfl, rfl, d, hd6, ls, ⟨⟨ca, cn, cc⟩, ⟨fa, fn, fc⟩, ⟨la, ln, lc⟩, ⟨ba, bn, bc⟩⟩, hri, hm, hk5, hb⟩ := hcut
  obtain ⟨W8, hW8⟩ : ∃ W8, W8 = wc := ⟨_, rfl⟩
  subst hW8
  obtain ⟨d0, d1, d2, d3, hx9⟩ := four_cells hk5
  have HM := Lib.hid hm
  have HTB := Lib.hid (hri.totB hd6 ⟨#[97]⟩)
  have HB := Lib.hid hb
  have hl0 := hri.l0
  have hsum := hri.sum
  have hg0 := hri.g0
  have hlen := hri.len
  obtain ⟨s1, s2⟩ := leased_small (fun l hl => (hri.each l hl).2.1) ⟨#[97]⟩
  have hnn := leased_nn ⟨#[97]⟩ ls (hri.totB hd6 ⟨#[97]⟩).ls
  obtain ⟨q1, q2⟩ := hnn
  clear hx9 hri hm hk5 hb HRO
  go_wp2_with fail
  refine (totals_any ⟨⟨ca, cn, cc⟩, ⟨fa, fn, fc⟩, ⟨la, ln, lc⟩, ⟨ba, bn, bc⟩⟩ (rBk left ls) ⟨#[97]⟩ _ HM.out HTB.out).mono ?_
  rw [r_tot]
  rintro e W9 ⟨rfl, hb9⟩
  simp only [List.map_cons, List.map_nil]
  have hfin := HB.out.trans (hb9.mono HB.out.size)
  have hsz := hfin.size
  clear d0 d1 d2 d3 hb9
  generalize leasedU ⟨#[97]⟩ ls = LU at *
  generalize leasedD ⟨#[97]⟩ ls = LD at *
  have g1 : LU + (20 - 10 - left - LU) = gr := by omega
  obtain ⟨T2, hT2⟩ : ∃ T2, 20 - 10 - left - LU = T2 := ⟨_, rfl⟩
  rw [hT2] at g1 ⊢
  have ht2 : -100 ≤ T2 ∧ T2 ≤ 100 := by omega
  obtain ⟨ht3, ht4⟩ := ht2
  have s3 : (LU + T2 == gr) = true := by simpa using g1
  clear g1 s2 q2 hT2
  go_wp2
  go_ret
  exact ⟨rfl, hfin.alloc hsz _⟩

end Go.Proofs.Ytckonmlcgfbojaa
