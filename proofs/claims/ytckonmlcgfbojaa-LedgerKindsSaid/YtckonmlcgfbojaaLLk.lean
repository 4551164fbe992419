/- The walk of LedgerKinds. -/
import Derived.Test.YtckonmlcgfbojaaLLw
import Derived.Test.YtckonmlcgfbojaaLSp
namespace Go.Proofs.Ytckonmlcgfbojaa
open Go.RowKit

theorem eleven_cells {w : World} {b : Nat} {a0 a1 a2 a3 a4 a5 a6 a7 a8 a9 a10 : Value} {t : TypeId} (h : w.heap[b]? = some (.cells #[a0, a1, a2, a3, a4, a5, a6, a7, a8, a9, a10] t (0, 0))) :
    (w.cell? ⟨b, 0, none⟩ = some a0 ∧ w.cell? ⟨b, 1, none⟩ = some a1 ∧ w.cell? ⟨b, 2, none⟩ = some a2 ∧ w.cell? ⟨b, 3, none⟩ = some a3 ∧ w.cell? ⟨b, 4, none⟩ = some a4 ∧ w.cell? ⟨b, 5, none⟩ = some a5 ∧ w.cell? ⟨b, 6, none⟩ = some a6 ∧ w.cell? ⟨b, 7, none⟩ = some a7 ∧ w.cell? ⟨b, 8, none⟩ = some a8 ∧ w.cell? ⟨b, 9, none⟩ = some a9 ∧ w.cell? ⟨b, 10, none⟩ = some a10) ∧ ∀ o, w.frozen? ⟨b, o, none⟩ = false := by
  refine ⟨⟨?_, ?_, ?_, ?_, ?_, ?_, ?_, ?_, ?_, ?_, ?_⟩, fun o => ?_⟩ <;> simp [World.cell?, World.frozen?, h]
abbrev oOp (k : Int) (key : ByteArray) (n : Int) : Obj := .cells #[.int .i64 2, .int .i64 3, .int .i64 1, .int .i64 0, .int .i64 1, .int .i64 k, .string key, .string ⟨#[116]⟩, .int .i64 n, .int .i64 0, .slice none 0 0] 63
def kL : Ls := ⟨2, 3, 50, -1, [⟨⟨#[97]⟩, 3, 0, 0, 0⟩], [(0, 4)], []⟩
def kB : Bk := (grantS begBk 2 3 50 [⟨⟨#[97]⟩, 3, 0, 4⟩]).1
theorem kinds_grant : grantS begBk 2 3 50 [⟨⟨#[97]⟩, 3, 0, 4⟩] = (kB, kL, 0) := by
  have h : (grantS begBk 2 3 50 [⟨⟨#[97]⟩, 3, 0, 4⟩]).2 = (kL, 0) := by decide +kernel
  unfold kB
  rw [← h]
theorem kL_spB (n : Int) (h : -1099511627776 ≤ n ∧ n ≤ 1099511627776) : SpB kL n := ⟨by decide, by decide, by decide, h, fun s hs => by simp [kL] at hs; subst hs; decide, by simp [kL]⟩
theorem kinds_a (k : Int) (h0 : 0 ≤ k) (h3 : k < 3) : spendS kL (1 + k) ⟨#[97]⟩ 0 = (kL, 0) := spendS_else (by omega) (by omega)
theorem kinds_b (n : Int) (h0 : 0 ≤ n) : spendS kL 4 ⟨#[97]⟩ (-1 - n) = (kL, 14) :=
  spendC_few (k := 0) (by decide) (by decide) (.inr (by simp [kL]; omega))
theorem kinds_c : spendS kL 4 ⟨#[98]⟩ 1 = (kL, 14) := by decide +kernel
theorem kinds_d (n : Int) (h0 : 0 ≤ n) : spendS kL 5 ⟨#[98]⟩ (4 + n) = (kL, 14) :=
  spendB_no (by simp [hasR, kL]; omega)

set_option maxRecDepth 100000 in
set_option maxHeartbeats 8000000 in
theorem kinds_walk (kind n : Int) (w : World) : Calls Try.prog 7 #[.int .i64 kind, .int .i64 n] w fun e w' => e = .returned (.bool true) ∧ Below w.heap.size w w' := by
  go_enter Try.func7, Try.ntmps7
  go_wp2_with fail
  refine (known_any _).mono ?_
  rintro e w1 ⟨rfl, hb1⟩
  go_wp2_with fail
  refine (begin_any _).mono ?_
  rintro e W2 ⟨⟨⟨ca, cn, cc⟩, ⟨fa, fn, fc⟩, ⟨la, ln, lc⟩, ⟨ba, bn, bc⟩⟩, rfl, hm2, hb2⟩
  have hbA : Below W2.heap.size W2 (W2.alloc (.cells #[.string ⟨#[97]⟩, .int .i64 3, .int .i64 0, .int .i64 4] 49)) := (Below.refl _ _).alloc (Nat.le_refl _) _
  have HM := Lib.hid (hm2.keep hbA (Nat.le_refl _))
  have HV := Lib.hid (slWn_one (heap_alloc_new W2 (.cells #[.string ⟨#[97]⟩, .int .i64 3, .int .i64 0, .int .i64 4] 49)))
  have HBW2 := Lib.hid ((hb1.trans (hb2.mono hb1.size)).trans (hbA.mono (hb1.trans (hb2.mono hb1.size)).size))
  clear hm2 hb2 hb1 hbA
  go_wp2_with fail
  refine (grant_any ⟨⟨ca, cn, cc⟩, ⟨fa, fn, fc⟩, ⟨la, ln, lc⟩, ⟨ba, bn, bc⟩⟩ begBk 2 3 50 _ [⟨⟨#[97]⟩, 3, 0, 4⟩] _ HM.out begGrB HV.out).mono ?_
  rw [kinds_grant]
  rintro e W3 ⟨⟨⟨da, dn, dc⟩, ⟨ea, en', ec⟩, ⟨ma, mn, mc⟩, ⟨na, nn, nc⟩⟩, ⟨y1, y2, y3, y4, ⟨y5, y6, y7⟩, ⟨y8, y9, y10⟩, ⟨y11, y12, y13⟩⟩, rfl, hm3, hl3, hb3⟩
  have hbB : Below W3.heap.size W3 ((W3.alloc (.cells #[.slice da dn dc, .slice ea en' ec, .slice ma mn mc, .slice na nn nc] 32)).alloc (.cells #[.int .i64 y1, .int .i64 y2, .int .i64 y3, .int .i64 y4, .slice y5 y6 y7, .slice y8 y9 y10, .slice y11 y12 y13] 45)) := ((Below.refl _ _).alloc (Nat.le_refl _) _).alloc (by simp) _
  have K6 := Lib.hid (alloc_second W3 (.cells #[.slice da dn dc, .slice ea en' ec, .slice ma mn mc, .slice na nn nc] 32) (.cells #[.int .i64 y1, .int .i64 y2, .int .i64 y3, .int .i64 y4, .slice y5 y6 y7, .slice y8 y9 y10, .slice y11 y12 y13] 45))
  have HL := Lib.hid (hl3.keep hbB (Nat.le_refl _))
  have HBW4 := Lib.hid (HBW2.out.trans ((hb3.trans (hbB.mono hb3.size)).mono HBW2.out.size))
  have hz4 : W3.heap.size + 1 < ((W3.alloc (.cells #[.slice da dn dc, .slice ea en' ec, .slice ma mn mc, .slice na nn nc] 32)).alloc (.cells #[.int .i64 y1, .int .i64 y2, .int .i64 y3, .int .i64 y4, .slice y5 y6 y7, .slice y8 y9 y10, .slice y11 y12 y13] 45)).heap.size := by simp
  clear hm3 hl3 hb3 hbB HBW2 HV HM
  go_upto_region 4 with fail
  generalize (W3.alloc (.cells #[.slice da dn dc, .slice ea en' ec, .slice ma mn mc, .slice na nn nc] 32)).alloc (.cells #[.int .i64 y1, .int .i64 y2, .int .i64 y3, .int .i64 y4, .slice y5 y6 y7, .slice y8 y9 y10, .slice y11 y12 y13] 45) = W4 at *
  generalize hp6 : W3.heap.size + 1 = p6 at *
  clear hp6
  have hk0 := Int.emod_nonneg kind (show (3 : Int) ≠ 0 by omega)
  have hk3 := Int.emod_lt_of_pos kind (show (0 : Int) < 3 by omega)
  have hn0 := Int.emod_nonneg n (show (5 : Int) ≠ 0 by omega)
  have hn5 := Int.emod_lt_of_pos n (show (0 : Int) < 5 by omega)
  have hq0 := Int.emod_nonneg n (show (90 : Int) ≠ 0 by omega)
  have hq5 := Int.emod_lt_of_pos n (show (0 : Int) < 90 by omega)
  go_wp2_with fail
  refine (wi_any kind 3 _ (by omega) (by omega)).mono ?_
  rintro e w2 ⟨rfl, rfl⟩
  generalize kind % 3 = k at *
  go_upto_region 5 with fail
  have KO := Lib.hid (heap_alloc_new W4 (oOp (1 + k) ⟨#[97]⟩ 0))
  have hb5 : Below W4.heap.size W4 (W4.alloc (oOp (1 + k) ⟨#[97]⟩ 0)) := (Below.refl _ _).alloc (Nat.le_refl _) _
  have hz5 : W4.heap.size < (W4.alloc (oOp (1 + k) ⟨#[97]⟩ 0)).heap.size := by simp
  generalize W4.alloc (oOp (1 + k) ⟨#[97]⟩ 0) = W5 at *
  generalize hp8 : W4.heap.size = p8 at *
  have HP8 := Lib.hid hp8
  clear hp8
  obtain ⟨⟨o0, o1, o2, o3, o4, o5, o6, o7, o8, o9, o10⟩, _⟩ := eleven_cells KO.out
  obtain ⟨d0, d1, d2, d3, d4, d5, d6, hx9⟩ := seven_cells (block_below K6.out hb5 hz4)
  clear hx9
  have HB5 := Lib.hid hb5
  clear hb5
  go_wp2_with fail
  refine (spend_any ⟨y1, y2, y3, y4, ⟨y5, y6, y7⟩, ⟨y8, y9, y10⟩, ⟨y11, y12, y13⟩⟩ kL ⟨2, 3, 1, 0, 1, 1 + k, ⟨#[97]⟩, ⟨#[116]⟩, 0, 0, ⟨none, 0, 0⟩⟩ _ (HL.out.keep HB5.out (Nat.le_of_eq HP8.out)) (kL_spB 0 (by omega))).mono ?_
  simp only [kinds_a k hk0 hk3]
  rintro e W6 ⟨⟨z1, z2, z3, z4, ⟨z5, z6, z7⟩, ⟨z8, z9, z10⟩, ⟨z11, z12, z13⟩⟩, rfl, hl6, hb6⟩
  have e6 : z6 = 1 := (Sl.lens (s := ⟨z5, z6, z7⟩) hl6.s).1
  have e12 : z12 = 0 := (Sl.lens (s := ⟨z11, z12, z13⟩) hl6.u).1
  subst e6 e12
  obtain ⟨b, off, hz5', hbl, _, _, _, c3, c4⟩ := SlT.sc (l := kL.sl) (ao := z5) (cap := z7) hl6.s (Below.refl _ W6) (Nat.le_refl _) 0 (by decide)
  subst hz5'
  simp only [kL, List.getElem_cons_zero, Nat.zero_mul, Nat.add_zero] at c3 c4
  have hcap := (Sl.lens (s := ⟨some ⟨b, off, none⟩, 1, z7⟩) hl6.s).2
  obtain ⟨hcap1, hcap2⟩ := hcap
  simp only at hcap1 hcap2
  have KO6 := Lib.hid (block_below KO.out hb6 hz5)
  have HB6 := Lib.hid (HB5.out.trans (hb6.mono (by have := HB5.out.size; have := HP8.out; omega)))
  clear hl6 o0 o1 o2 o3 o4 o5 o6 o7 o8 o9 o10 d0 d1 d2 d3 d4 d5 d6
  have KOP := Lib.hid KO6.out
  have HBP := Lib.hid HB6.out
  clear KO6 HB6 KO HB5
  have hbC : Below W6.heap.size W6 (W6.alloc (.cells #[.int .i64 z1, .int .i64 z2, .int .i64 z3, .int .i64 z4, .slice (some ⟨b, off, none⟩) 1 z7, .slice z8 z9 z10, .slice z11 0 z13] 45)) := (Below.refl _ _).alloc (Nat.le_refl _) _
  have KOa := Lib.hid (block_below KOP.out hbC (Array.getElem?_eq_some_iff.1 KOP.out).1)
  have HBa := Lib.hid (HBP.out.trans (hbC.mono (Nat.le_trans (Nat.le_of_eq HP8.out.symm) HBP.out.size)))
  clear hbC KOP HBP
  go_upto_region 8 with fail
  generalize W6.alloc (.cells #[.int .i64 z1, .int .i64 z2, .int .i64 z3, .int .i64 z4, .slice (some ⟨b, off, none⟩) 1 z7, .slice z8 z9 z10, .slice z11 0 z13] 45) = W1a at *
  have hzz := (Array.getElem?_eq_some_iff.1 KOa.out).1
  obtain ⟨⟨o0, o1, o2, o3, o4, o5, o6, o7, o8, o9, o10⟩, ofz⟩ := eleven_cells KOa.out
  have fz5 := ofz 5
  have fz8 := ofz 8
  clear ofz
  go_wp2_with fail
  refine (wi_any n 5 _ (by omega) (by omega)).mono ?_
  rintro e wq ⟨rfl, rfl⟩
  generalize n % 5 = m1 at *
  have KOP : Hid (((W1a.setCell ⟨p8, 5, none⟩ (.int .i64 4)).setCell ⟨p8, 8, none⟩ (.int .i64 (-1 - m1))).heap[p8]? = some (oOp 4 ⟨#[97]⟩ (-1 - m1))) := Lib.hid (by simp [World.setCell, Array.getElem?_modify, KOa.out])
  have HBP := Lib.hid ((HBa.out.setCell (p := ⟨p8, 5, none⟩) (Nat.le_refl _) (.int .i64 4)).setCell (p := ⟨p8, 8, none⟩) (Nat.le_refl _) (.int .i64 (-1 - m1)))
  go_upto_region 9 with fail
  generalize ((W1a.setCell ⟨p8, 5, none⟩ (.int .i64 4)).setCell ⟨p8, 8, none⟩ (.int .i64 (-1 - m1))) = W1b at *
  clear o0 o1 o2 o3 o4 o5 o6 o7 o8 o9 o10 KOa HBa hzz fz5 fz8
  obtain ⟨⟨o0, o1, o2, o3, o4, o5, o6, o7, o8, o9, o10⟩, _⟩ := eleven_cells KOP.out
  obtain ⟨d0, d1, d2, d3, d4, d5, d6, hx9⟩ := seven_cells (block_below K6.out HBP.out hz4)
  clear hx9
  go_wp2_with fail
  refine (spend_any ⟨y1, y2, y3, y4, ⟨y5, y6, y7⟩, ⟨y8, y9, y10⟩, ⟨y11, y12, y13⟩⟩ kL ⟨2, 3, 1, 0, 1, 4, ⟨#[97]⟩, ⟨#[116]⟩, -1 - m1, 0, ⟨none, 0, 0⟩⟩ _ (HL.out.keep HBP.out (Nat.le_of_eq HP8.out)) (kL_spB (-1 - m1) (by omega))).mono ?_
  simp only [kinds_b m1 hn0]
  rintro e W1c ⟨⟨z1, z2, z3, z4, ⟨z5, z6, z7⟩, ⟨z8, z9, z10⟩, ⟨z11, z12, z13⟩⟩, rfl, hlz, hbz⟩
  have KOQ := Lib.hid (block_below KOP.out hbz (Array.getElem?_eq_some_iff.1 KOP.out).1)
  have HBQ := Lib.hid (HBP.out.trans (hbz.mono (Nat.le_trans (Nat.le_of_eq HP8.out.symm) HBP.out.size)))
  clear hlz hbz KOP HBP o0 o1 o2 o3 o4 o5 o6 o7 o8 o9 o10 d0 d1 d2 d3 d4 d5 d6
  have KOP := Lib.hid KOQ.out
  have HBP := Lib.hid HBQ.out
  clear KOQ HBQ
  have hbC : Below W1c.heap.size W1c (W1c.alloc (.cells #[.int .i64 z1, .int .i64 z2, .int .i64 z3, .int .i64 z4, .slice z5 z6 z7, .slice z8 z9 z10, .slice z11 z12 z13] 45)) := (Below.refl _ _).alloc (Nat.le_refl _) _
  have KOa := Lib.hid (block_below KOP.out hbC (Array.getElem?_eq_some_iff.1 KOP.out).1)
  have HBa := Lib.hid (HBP.out.trans (hbC.mono (Nat.le_trans (Nat.le_of_eq HP8.out.symm) HBP.out.size)))
  clear hbC KOP HBP
  go_upto_region 10 with fail
  generalize W1c.alloc (.cells #[.int .i64 z1, .int .i64 z2, .int .i64 z3, .int .i64 z4, .slice z5 z6 z7, .slice z8 z9 z10, .slice z11 z12 z13] 45) = W2a at *
  have hzz := (Array.getElem?_eq_some_iff.1 KOa.out).1
  obtain ⟨⟨o0, o1, o2, o3, o4, o5, o6, o7, o8, o9, o10⟩, ofz⟩ := eleven_cells KOa.out
  have fz8 := ofz 8
  have fz6 := ofz 6
  clear ofz
  have KOP : Hid (((W2a.setCell ⟨p8, 8, none⟩ (.int .i64 1)).setCell ⟨p8, 6, none⟩ (.string ⟨#[98]⟩)).heap[p8]? = some (oOp 4 ⟨#[98]⟩ 1)) := Lib.hid (by simp [World.setCell, Array.getElem?_modify, KOa.out])
  have HBP := Lib.hid ((HBa.out.setCell (p := ⟨p8, 8, none⟩) (Nat.le_refl _) (.int .i64 1)).setCell (p := ⟨p8, 6, none⟩) (Nat.le_refl _) (.string ⟨#[98]⟩))
  go_upto_region 11 with fail
  generalize ((W2a.setCell ⟨p8, 8, none⟩ (.int .i64 1)).setCell ⟨p8, 6, none⟩ (.string ⟨#[98]⟩)) = W2b at *
  clear o0 o1 o2 o3 o4 o5 o6 o7 o8 o9 o10 KOa HBa hzz fz8 fz6
  obtain ⟨⟨o0, o1, o2, o3, o4, o5, o6, o7, o8, o9, o10⟩, _⟩ := eleven_cells KOP.out
  obtain ⟨d0, d1, d2, d3, d4, d5, d6, hx9⟩ := seven_cells (block_below K6.out HBP.out hz4)
  clear hx9
  go_wp2_with fail
  refine (spend_any ⟨y1, y2, y3, y4, ⟨y5, y6, y7⟩, ⟨y8, y9, y10⟩, ⟨y11, y12, y13⟩⟩ kL ⟨2, 3, 1, 0, 1, 4, ⟨#[98]⟩, ⟨#[116]⟩, 1, 0, ⟨none, 0, 0⟩⟩ _ (HL.out.keep HBP.out (Nat.le_of_eq HP8.out)) (kL_spB (1) (by omega))).mono ?_
  simp only [kinds_c]
  rintro e W2c ⟨⟨z1, z2, z3, z4, ⟨z5, z6, z7⟩, ⟨z8, z9, z10⟩, ⟨z11, z12, z13⟩⟩, rfl, hlz, hbz⟩
  have KOQ := Lib.hid (block_below KOP.out hbz (Array.getElem?_eq_some_iff.1 KOP.out).1)
  have HBQ := Lib.hid (HBP.out.trans (hbz.mono (Nat.le_trans (Nat.le_of_eq HP8.out.symm) HBP.out.size)))
  clear hlz hbz KOP HBP o0 o1 o2 o3 o4 o5 o6 o7 o8 o9 o10 d0 d1 d2 d3 d4 d5 d6
  have KOP := Lib.hid KOQ.out
  have HBP := Lib.hid HBQ.out
  clear KOQ HBQ
  have hbC : Below W2c.heap.size W2c (W2c.alloc (.cells #[.int .i64 z1, .int .i64 z2, .int .i64 z3, .int .i64 z4, .slice z5 z6 z7, .slice z8 z9 z10, .slice z11 z12 z13] 45)) := (Below.refl _ _).alloc (Nat.le_refl _) _
  have KOa := Lib.hid (block_below KOP.out hbC (Array.getElem?_eq_some_iff.1 KOP.out).1)
  have HBa := Lib.hid (HBP.out.trans (hbC.mono (Nat.le_trans (Nat.le_of_eq HP8.out.symm) HBP.out.size)))
  clear hbC KOP HBP
  go_upto_region 12 with fail
  generalize W2c.alloc (.cells #[.int .i64 z1, .int .i64 z2, .int .i64 z3, .int .i64 z4, .slice z5 z6 z7, .slice z8 z9 z10, .slice z11 z12 z13] 45) = W3a at *
  have hzz := (Array.getElem?_eq_some_iff.1 KOa.out).1
  obtain ⟨⟨o0, o1, o2, o3, o4, o5, o6, o7, o8, o9, o10⟩, ofz⟩ := eleven_cells KOa.out
  have fz5 := ofz 5
  have fz8 := ofz 8
  clear ofz
  go_wp2_with fail
  refine (wi_any n 90 _ (by omega) (by omega)).mono ?_
  rintro e wq ⟨rfl, rfl⟩
  generalize n % 90 = m3 at *
  have KOP : Hid (((W3a.setCell ⟨p8, 5, none⟩ (.int .i64 5)).setCell ⟨p8, 8, none⟩ (.int .i64 (4 + m3))).heap[p8]? = some (oOp 5 ⟨#[98]⟩ (4 + m3))) := Lib.hid (by simp [World.setCell, Array.getElem?_modify, KOa.out])
  have HBP := Lib.hid ((HBa.out.setCell (p := ⟨p8, 5, none⟩) (Nat.le_refl _) (.int .i64 5)).setCell (p := ⟨p8, 8, none⟩) (Nat.le_refl _) (.int .i64 (4 + m3)))
  go_upto_region 13 with fail
  generalize ((W3a.setCell ⟨p8, 5, none⟩ (.int .i64 5)).setCell ⟨p8, 8, none⟩ (.int .i64 (4 + m3))) = W3b at *
  clear o0 o1 o2 o3 o4 o5 o6 o7 o8 o9 o10 KOa HBa hzz fz5 fz8
  obtain ⟨⟨o0, o1, o2, o3, o4, o5, o6, o7, o8, o9, o10⟩, _⟩ := eleven_cells KOP.out
  obtain ⟨d0, d1, d2, d3, d4, d5, d6, hx9⟩ := seven_cells (block_below K6.out HBP.out hz4)
  clear hx9
  go_wp2_with fail
  refine (spend_any ⟨y1, y2, y3, y4, ⟨y5, y6, y7⟩, ⟨y8, y9, y10⟩, ⟨y11, y12, y13⟩⟩ kL ⟨2, 3, 1, 0, 1, 5, ⟨#[98]⟩, ⟨#[116]⟩, 4 + m3, 0, ⟨none, 0, 0⟩⟩ _ (HL.out.keep HBP.out (Nat.le_of_eq HP8.out)) (kL_spB (4 + m3) (by omega))).mono ?_
  simp only [kinds_d m3 hq0]
  rintro e W3c ⟨⟨z1, z2, z3, z4, ⟨z5, z6, z7⟩, ⟨z8, z9, z10⟩, ⟨z11, z12, z13⟩⟩, rfl, hlz, hbz⟩
  have KOQ := Lib.hid (block_below KOP.out hbz (Array.getElem?_eq_some_iff.1 KOP.out).1)
  have HBQ := Lib.hid (HBP.out.trans (hbz.mono (Nat.le_trans (Nat.le_of_eq HP8.out.symm) HBP.out.size)))
  clear hlz hbz KOP HBP o0 o1 o2 o3 o4 o5 o6 o7 o8 o9 o10 d0 d1 d2 d3 d4 d5 d6
  have KOP := Lib.hid KOQ.out
  have HBP := Lib.hid HBQ.out
  clear KOQ HBQ
  have hfin := HBW4.out.trans (HBP.out.mono (by have := HBW4.out.size; have := HP8.out; omega))
  have hsz := hfin.size
  go_wp2
  go_ret
  exact ⟨rfl, hfin.alloc hsz _⟩

end Go.Proofs.Ytckonmlcgfbojaa
