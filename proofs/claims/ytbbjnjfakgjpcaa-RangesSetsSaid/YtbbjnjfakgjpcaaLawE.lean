/- The walk of the law RangesSets. -/
import Derived.Test.YtbbjnjfakgjpcaaLawB
import Derived.Test.YtbbjnjfakgjpcaaLawC
import Derived.Test.YtbbjnjfakgjpcaaWkE
namespace Go.Proofs.Ytbbjnjfakgjpcaa
open Go.RowKit

theorem len_is (v : Value) (l : List Rg) (m : Int) (w : World) (h : SlR w v l) (hs : Small l) (hl : l.length < 1000000) (e : lenR l = m) :
    Calls Try.prog 14 #[v] w fun e w' => e = .returned (.int .i64 m) ∧ Below w.heap.size w w' := by subst e; exact len_any v l w h hs hl
theorem has_is (v : Value) (l : List Rg) (n : Int) (b : Bool) (w : World) (h : SlR w v l) (hl : l.length < 1000000) (e : hasR l n = b) :
    Calls Try.prog 15 #[v, .int .i64 n] w fun e w' => e = .returned (.bool b) ∧ Below w.heap.size w w' := by subst e; exact has_any v l n w h hl
theorem row_yes (v : Value) (l : List Rg) (w : World) (h : SlR w v l) (hr : RowP l) :
    Calls Try.prog 17 #[v] w fun e w' => e = .returned (.bool true) ∧ Below w.heap.size w w' :=
  (row_any v l w h).mono fun _ _ hh => by rw [decide_eq_true hr] at hh; exact hh

theorem SlR.drew {w : World} {v : Value} {l : List Rg} (h : SlR w v l) : SlR w.drew v l := h.keep (Below.refl w.heap.size w).drew (Nat.le_refl _)

theorem cntR_le {l : List Rg} (h : Small l) (k : Int) : cntR l k ≤ lenR l := by
  induction l with
  | nil => simp [cntR, lenR]
  | cons r l ih =>
    have h1 := h r (by simp)
    have h2 := ih (fun x hx => h x (by simp [hx]))
    simp only [cntR, lenR]; omega

theorem has_of (l : List Rg) (k : Int) (b : Bool) (h : memR l k ↔ b = true) : hasR l k = b := by
  rw [Bool.eq_iff_iff, hasR_iff]; exact h

set_option maxRecDepth 100000 in
set_option maxHeartbeats 16000000 in
theorem sets_walk (v : Value) (ns : List Int) (x0 y0 n0 : Int) (w : World) (h : SlI w v ns) (hI : I64 ns) (_hx : -9223372036854775808 ≤ x0 ∧ x0 ≤ 9223372036854775807) (_hy : -9223372036854775808 ≤ y0 ∧ y0 ≤ 9223372036854775807) :
    Calls Try.prog 6 #[v, .agg #[.int .i64 x0, .int .i64 y0], .int .i64 n0] w fun e w' => e = .returned (.bool true) ∧ Below w.heap.size w w' := by
  have rl := rowP_ofS ns
  have hbd := bd_ofS ns
  obtain ⟨hl66, hln66⟩ := hbd.len rl (by omega)
  have hl0 := (lenR_bounds _ rl.1).1
  have HBD := Lib.hid hbd
  clear hbd
  go_enter Try.func6, Try.ntmps6
  go_wp2_with fail
  have hrb : (w.alloc (.cells #[.int .i64 x0, .int .i64 y0] 28)).heap[w.heap.size]? = some (.cells #[.int .i64 x0, .int .i64 y0] 28 (0, 0)) := heap_alloc_new w _
  have hba : Below w.heap.size w (w.alloc (.cells #[.int .i64 x0, .int .i64 y0] 28)) := (Below.refl _ _).alloc (Nat.le_refl _) _
  have hsz : w.heap.size < (w.alloc (.cells #[.int .i64 x0, .int .i64 y0] 28)).heap.size := by simp
  generalize w.alloc (.cells #[.int .i64 x0, .int .i64 y0] 28) = wa at *
  have HRA := Lib.hid hrb
  clear hrb
  have hh := Sl.keep h hba (Nat.le_refl _)
  refine (known_any _).mono ?_
  rintro e w0 ⟨rfl, hb0⟩
  have hb0s := hb0.size
  go_wp2_with fail
  refine (of_fresh _ _ _ (Sl.keep hh hb0 (Nat.le_refl _)) hI).mono ?_
  rintro e w1 ⟨va, rfl, hsa, hfa, hb1⟩
  have hb01 := hb0.trans (hb1.mono hb0.size)
  have HRB := Lib.hid (two_below HRA.out hb01 hsz)
  have hbw : Below w.heap.size w w1 := hba.trans (hb01.mono (by omega))
  have hf : Fresh (w.heap.size + 1) va := fun g hg => by have := hfa g hg; omega
  clear hb0 hb1 hb01 hh h HRA hba hfa hb0s hsz
  generalize ofS ns = a at *
  have hbs := hbw.size
  obtain ⟨c0, c1, f0, f1, hbs2⟩ := two_cells HRB.out
  have qx1 := Int.emod_nonneg x0 (show (70 : Int) ≠ 0 by omega)
  have qx2 := Int.emod_lt_of_pos x0 (show (0 : Int) < 70 by omega)
  have qy1 := Int.emod_nonneg y0 (show (8 : Int) ≠ 0 by omega)
  have qy2 := Int.emod_lt_of_pos y0 (show (0 : Int) < 8 by omega)
  go_wp2_with fail
  refine (within_any _ 70 _ (by omega) (by omega)).mono ?_
  rintro e w2 ⟨rfl, rfl⟩
  have HW1 : IntKind.i64.wrap (x0 % 70 + 1) = x0 % 70 + 1 := IntWalk.i64_in _ (by omega)
  have HW2 : IntKind.i64.wrap (x0 % 70 + 1 + y0 % 8) = x0 % 70 + 1 + y0 % 8 := IntWalk.i64_in _ (by omega)
  go_upto_region 5 with fail
  go_cut [] (fun wx => wx.heap[w.heap.size]? = some (.cells #[.int .i64 (x0 % 70), .int .i64 (x0 % 70 + 1 + y0 % 8)] 28 (0, 0)) ∧ SlR wx va a ∧ Below w.heap.size w wx)
  case first =>
    go_wp2
    go_region_with (go_at_call 12; refine (within_any _ 8 _ (by omega) (by omega)).mono ?_; rintro e w9 ⟨rfl, rfl⟩)
    all_goals
      go_wp2_with fail
      go_meet
      exact ⟨set_two HRB.out _ _, SlR.drew ((hsa.setCell hf ⟨w.heap.size, 0, none⟩ (by simp) _).setCell hf ⟨w.heap.size, 1, none⟩ (by simp) _), ((hbw.setCell (Nat.le_refl _) _).setCell (Nat.le_refl _) _).drew⟩
  case rest =>
  obtain ⟨hrb2, hsa2, hb2⟩ := hcut
  have hok : Ok (x0 % 70, x0 % 70 + 1 + y0 % 8) := by unfold Ok; simp only; omega
  have HOK := Lib.hid hok
  have q78 : x0 % 70 + 1 + y0 % 8 ≤ 78 := by omega
  clear hok _hx _hy c0 c1 f0 f1 HRB hsa hbw hbs hbs2 HW1 HW2
  generalize x0 % 70 + 1 + y0 % 8 = q at *
  generalize x0 % 70 = p at *
  obtain ⟨e0, e1, g0, g1, hbs3⟩ := two_cells hrb2
  have HRB2 := Lib.hid hrb2
  have HRL := Lib.hid rl
  clear hrb2 rl
  -- the sum
  go_wp2_with fail
  refine (add_any _ a p q _ hsa2 (by omega)).mono ?_
  rintro e w3 ⟨v3, rfl, ho3, hb3⟩
  have hsum : addS a (p, q) = addT a (p, q) := addS_ok HOK.out
  rw [hsum] at ho3
  have hs3 : SlR w3 v3 (addT a (p, q)) := sl_of_owns ho3
  have HS := Lib.hid (addT_spec a (p, q) HOK.out HRL.out)
  have hlS := length_addT a (p, q)
  have hsa3 := hsa2.keep hb3 (Nat.le_refl _)
  have hb03 := hb2.trans (hb3.mono hb2.size)
  have HRB3 := Lib.hid (two_below HRB2.out hb3 hbs3)
  clear ho3 hb3 hb2 hsa2 HRB2 hsum e0 e1 g0 g1 hbs3
  generalize addT a (p, q) = S at *
  -- how many are taken
  go_wp2_with fail
  refine (len_any _ a _ hsa3 HRL.out.1 (by omega)).mono ?_
  rintro e w4 ⟨rfl, hb4⟩
  have hs4 := hs3.keep hb4 (Nat.le_refl _)
  have hsa4 := hsa3.keep hb4 (Nat.le_refl _)
  have hb04 := hb03.trans (hb4.mono hb03.size)
  have HRB4 := Lib.hid (two_below HRB3.out hb4 (two_cells HRB3.out).2.2.2.2)
  clear hb4 hb03 hs3 hsa3 HRB3
  obtain ⟨L, hL⟩ : ∃ L, lenR a = L := ⟨_, rfl⟩
  rw [hL] at hl66 hl0 ⊢
  have HL := Lib.hid hL
  clear hL
  go_wp2_with fail
  refine (within_any _ (L + 1) _ (by omega) (by omega)).mono ?_
  rintro e w5 ⟨rfl, rfl⟩
  have qn1 := Int.emod_nonneg n0 (show L + 1 ≠ 0 by omega)
  have qn2 := Int.emod_lt_of_pos n0 (show (0 : Int) < L + 1 by omega)
  generalize n0 % (L + 1) = n at *
  have HT := Lib.hid (takeS_spec a n qn1 (by rw [HL.out]; omega) HRL.out)
  go_wp2_with fail
  refine (take_ok _ a n _ hsa4 HRL.out.1 (by omega) qn1 (by rw [HL.out]; omega)).mono ?_
  rintro e w6 ⟨v1, v2, rfl, ho1, ho2, _, hb6⟩
  have hs1 : SlR w6 v1 (takeS a n).1 := sl_of_owns ho1
  have hs2 : SlR w6 v2 (takeS a n).2 := sl_of_owns ho2
  have HAB := Lib.hid ((PInv.start HRL.out).step qn1 (by rw [HL.out]; omega))
  generalize (takeS a n).1 = A at *
  generalize (takeS a n).2 = B at *
  have hs6 := hs4.keep hb6 (Nat.le_refl _)
  have hsa6 := hsa4.keep hb6 (Nat.le_refl _)
  have hb06 := hb04.trans (hb6.mono hb04.size)
  have HRB6 := Lib.hid (two_below HRB4.out hb6 (two_cells HRB4.out).2.2.2.2)
  clear ho1 ho2 hb6 hb04 hs4 hsa4 HRB4
  have hAl := HT.out.2.2.1
  have hBl := HT.out.2.2.2.1
  have hAb : Bd 66 A := fun k hk => HBD.out k (((HT.out.2.2.2.2.1 k).1 hk).1)
  have hBb : Bd 66 B := fun k hk => HBD.out k (((HT.out.2.2.2.2.2.1 k).1 hk).1)
  have lA := (hAb.len HT.out.1 (by omega)).2
  have lB := (hBb.len HT.out.2.1 (by omega)).2
  rw [HL.out] at hBl
  have HAl := Lib.hid hAl
  have HBl := Lib.hid hBl
  clear hAl hBl hAb hBb
  go_wp2_with fail
  refine (len_is _ A n _ hs1 HT.out.1.1 (by omega) HAl.out).mono ?_
  rintro e w7 ⟨rfl, hb7⟩
  have hs17 := hs1.keep hb7 (Nat.le_refl _)
  have hs27 := hs2.keep hb7 (Nat.le_refl _)
  have hs7 := hs6.keep hb7 (Nat.le_refl _)
  have hsa7 := hsa6.keep hb7 (Nat.le_refl _)
  have hb07 := hb06.trans (hb7.mono hb06.size)
  have HRB7 := Lib.hid (two_below HRB6.out hb7 (two_cells HRB6.out).2.2.2.2)
  clear hb7 hb06 hs1 hs2 hs6 hsa6 HRB6
  go_wp2_with fail
  refine (len_is _ B (L - n) _ hs27 HT.out.2.1.1 (by omega) HBl.out).mono ?_
  rintro e w8 ⟨rfl, hb8⟩
  have hs18 := hs17.keep hb8 (Nat.le_refl _)
  have hs28 := hs27.keep hb8 (Nat.le_refl _)
  have hs8 := hs7.keep hb8 (Nat.le_refl _)
  have hsa8 := hsa7.keep hb8 (Nat.le_refl _)
  have hb08 := hb07.trans (hb8.mono hb07.size)
  have HRB8 := Lib.hid (two_below HRB7.out hb8 (two_cells HRB7.out).2.2.2.2)
  clear hb8 hb07 hs17 hs27 hs7 hsa7 HRB7
  go_wp2_with fail
  refine (len_is _ a L _ hsa8 HRL.out.1 (by omega) HL.out).mono ?_
  rintro e w9 ⟨rfl, hb9⟩
  have hs19 := hs18.keep hb9 (Nat.le_refl _)
  have hs29 := hs28.keep hb9 (Nat.le_refl _)
  have hs9 := hs8.keep hb9 (Nat.le_refl _)
  have hsa9 := hsa8.keep hb9 (Nat.le_refl _)
  have hb09 := hb08.trans (hb9.mono hb08.size)
  have HRB9 := Lib.hid (two_below HRB8.out hb9 (two_cells HRB8.out).2.2.2.2)
  clear hb9 hb08 hs18 hs28 hs8 hsa8 HRB8
  obtain ⟨aA, capA, rfl, hcapA, hmA⟩ := Sl.shape hs19
  -- a added back to b
  have HBack : Hid (addAll B A = a) := by
    show _ = _
    refine rowP_ext (rowP_addAll HT.out.2.1 HT.out.1.ok) HRL.out (fun k => ?_)
    rw [memR_addAll HT.out.2.1 HT.out.1.ok, HT.out.2.2.2.2.1, HT.out.2.2.2.2.2.1]
    constructor
    · rintro (hk | hk)
      · exact hk.1
      · exact hk.1
    · intro hk
      rcases Int.lt_or_le (cntR a k) n with hc | hc
      · exact .inr ⟨hk, hc⟩
      · exact .inl ⟨hk, hc⟩
  go_upto_block 0 with fail
  go_cut [12, 13] (fun v12 _ wx => SlR wx v12 a ∧ Below w9.heap.size w9 wx)
  case first =>
    go_wp2
    go_loopw [12, 13] (fun v12 jx wr => ∃ j : Nat, j ≤ A.length ∧ jx = .int .i64 j ∧ SlR wr v12 (addAll B (A.take j)) ∧ Below w9.heap.size w9 wr) (fun _ jx _ => A.length - (intOf jx).toNat)
    case atStart => exact ⟨0, Nat.zero_le _, rfl, hs29, Below.refl _ _⟩
    case round =>
      obtain ⟨j, hj, rfl, hs12, hb5⟩ := hrel
      have hll := length_addAll (A.take j) B
      have hlt := List.length_take_le j A
      rcases Nat.lt_or_ge j A.length with hltj | hgej
      · obtain ⟨b1, off1, rfl, hbl1, hc1, hc2⟩ := hs19.pair hb5 (Nat.le_refl _) j hltj
        have HA : Hid (addAll B (A.take (j + 1)) = addS (addAll B (A.take j)) A[j]) := by show _ = _; rw [take_snoc A j hltj, addAll_snoc]
        generalize A[j] = r at *
        obtain ⟨x, y⟩ := r
        simp only at hc1 hc2
        generalize addAll B (A.take j) = X at *
        have hX : X.length < 1000000 := by omega
        go_wp2_with fail
        refine (add_any _ X x y _ hs12 hX).mono ?_
        rintro e w10 ⟨v10, rfl, ho10, hb10⟩
        have hs10 : SlR w10 v10 (addS X (x, y)) := sl_of_owns ho10
        have hb56 := hb5.trans (hb10.mono hb5.size)
        clear ho10 hb10
        go_wp2
        go_roundw
        case rel => exact ⟨j + 1, by omega, by go_num, by rw [HA.out]; exact hs10, hb56⟩
        case measure => simp [intOf]; omega
      · rw [List.take_of_length_le hgej, HBack.out] at hs12
        go_wp2
        go_meet
        exact ⟨hs12, hb5⟩
  case rest =>
  obtain ⟨hs12, hbc⟩ := hcut
  have hs1c := hs19.keep hbc (Nat.le_refl _)
  have hs2c := hs29.keep hbc (Nat.le_refl _)
  have hsc := hs9.keep hbc (Nat.le_refl _)
  have hsac := hsa9.keep hbc (Nat.le_refl _)
  have hb0c := hb09.trans (hbc.mono hb09.size)
  have HRBc := Lib.hid (two_below HRB9.out hbc (two_cells HRB9.out).2.2.2.2)
  clear hbc hb09 hs19 hs29 hs9 hsa9 HRB9 HBack
  go_upto_block 2 with fail
  go_cut [14, 15] (fun _ _ wx => Below wc.heap.size wc wx)
  case first =>
    go_wp2
    go_loopw [14, 15] (fun s14 kx wr => ∃ k : Nat, k ≤ 90 ∧ s14 = .int .i64 (cntR a k) ∧ kx = .int .i64 k ∧ Below wc.heap.size wc wr) (fun _ kx _ => 90 - (intOf kx).toNat)
    case atStart => exact ⟨0, Nat.zero_le _, by rw [show (((0 : Nat) : Int)) = 0 from rfl, cntR_zero HRL.out], rfl, Below.refl _ _⟩
    case round =>
      obtain ⟨k, hk, rfl, rfl, hq0⟩ := hrel
      have hc0 := cntR_nonneg a k
      have hc1 := cntR_le HRL.out.1 k
      rw [HL.out] at hc1
      have HC := Lib.hid (cntR_step HRL.out k)
      rcases Nat.lt_or_ge k 90 with hlt | hge
      · have ha0 := hsac.keep hq0 (Nat.le_refl _)
        have hS0 := hsc.keep hq0 (Nat.le_refl _)
        have hA0 := hs1c.keep hq0 (Nat.le_refl _)
        have hB0 := hs2c.keep hq0 (Nat.le_refl _)
        have HR0 := Lib.hid (two_below HRBc.out hq0 (two_cells HRBc.out).2.2.2.2)
        have HmS := Lib.hid (HS.out.2.1 k)
        have HmA := Lib.hid (HT.out.2.2.2.2.1 k)
        have HmB := Lib.hid (HT.out.2.2.2.2.2.1 k)
        have HLs := Lib.hid (lessS_spec a k HRL.out)
        by_cases hx : memR a k
        · have HX : Hid (hasR a k = true) := (hasR_iff a k).2 hx
          have HSk : Hid (hasR S k = true) := (hasR_iff S k).2 (HmS.out.2 (.inl hx))
          have HAk : Hid (hasR A k = decide (cntR a k < n)) := has_of _ _ _ (by rw [HmA.out, decide_eq_true_iff]; exact ⟨fun h => h.2, fun h => ⟨hx, h⟩⟩)
          have HBk : Hid (hasR B k = decide (n ≤ cntR a k)) := has_of _ _ _ (by rw [HmB.out, decide_eq_true_iff]; exact ⟨fun h => h.2, fun h => ⟨hx, h⟩⟩)
          have HC1 : Hid (cntR a ((k : Int) + 1) = cntR a k + 1) := by show _ = _; rw [HC.out, if_pos hx]
          have hlsn : Hid (hasR (lessS a k) k = false) := has_of _ _ _ (by rw [HLs.out.2.1]; simp)
          have hlsl : Hid (lenR (lessS a k) = L - 1) := by show _ = _; rw [HLs.out.2.2.2, HX.out, HL.out]; rfl
          have hlst := length_lessS a k
          clear hx HC HmS HmA HmB
          generalize cntR a k = c at *
          go_wp2_with fail
          refine (has_is _ a k true _ ha0 (by omega) HX.out).mono ?_
          rintro e w1 ⟨rfl, hb1⟩
          have ha1 := ha0.keep hb1 (Nat.le_refl _)
          have hS1 := hS0.keep hb1 (Nat.le_refl _)
          have hA1 := hA0.keep hb1 (Nat.le_refl _)
          have hB1 := hB0.keep hb1 (Nat.le_refl _)
          have hq1 := hq0.trans (hb1.mono hq0.size)
          have HR1 := Lib.hid (two_below HR0.out hb1 (two_cells HR0.out).2.2.2.2)
          clear hb1 hq0 HR0 ha0 hS0 hA0 hB0
          go_wp2_with fail
          refine (has_is _ S k true _ hS1 (by omega) HSk.out).mono ?_
          rintro e w2 ⟨rfl, hb2⟩
          have ha2 := ha1.keep hb2 (Nat.le_refl _)
          have hS2 := hS1.keep hb2 (Nat.le_refl _)
          have hA2 := hA1.keep hb2 (Nat.le_refl _)
          have hB2 := hB1.keep hb2 (Nat.le_refl _)
          have hq2 := hq1.trans (hb2.mono hq1.size)
          have HR2 := Lib.hid (two_below HR1.out hb2 (two_cells HR1.out).2.2.2.2)
          clear hb2 hq1 HR1 ha1 hS1 hA1 hB1
          obtain ⟨c0, c1, _, _, _⟩ := two_cells HR2.out
          go_wp2_with fail
          refine (has_is _ A k (decide (c < n)) _ hA2 (by omega) HAk.out).mono ?_
          rintro e w3 ⟨rfl, hb3⟩
          have ha3 := ha2.keep hb3 (Nat.le_refl _)
          have hS3 := hS2.keep hb3 (Nat.le_refl _)
          have hA3 := hA2.keep hb3 (Nat.le_refl _)
          have hB3 := hB2.keep hb3 (Nat.le_refl _)
          have hq3 := hq2.trans (hb3.mono hq2.size)
          have HR3 := Lib.hid (two_below HR2.out hb3 (two_cells HR2.out).2.2.2.2)
          clear hb3 hq2 HR2 ha2 hS2 hA2 hB2
          go_wp2_with fail
          refine (has_is _ B k (decide (n ≤ c)) _ hB3 (by omega) HBk.out).mono ?_
          rintro e w4 ⟨rfl, hb4⟩
          have ha4 := ha3.keep hb4 (Nat.le_refl _)
          have hS4 := hS3.keep hb4 (Nat.le_refl _)
          have hA4 := hA3.keep hb4 (Nat.le_refl _)
          have hB4 := hB3.keep hb4 (Nat.le_refl _)
          have hq4 := hq3.trans (hb4.mono hq3.size)
          have HR4 := Lib.hid (two_below HR3.out hb4 (two_cells HR3.out).2.2.2.2)
          clear hb4 hq3 HR3 ha3 hS3 hA3 hB3
          go_wp2_with fail
          refine (less_yes _ a k _ ha4 HRL.out.1 (by omega) HX.out (by omega) (by omega)).mono ?_
          rintro e w5 ⟨v5, rfl, ho5, hb5⟩
          have hl5 : SlR w5 v5 (lessS a k) := sl_of_owns ho5
          have ha5 := ha4.keep hb5 (Nat.le_refl _)
          have hq5 := hq4.trans (hb5.mono hq4.size)
          have HLr := Lib.hid HLs.out.1
          generalize lessS a k = ls at *
          clear ho5 hb5 hq4 HR4 ha4 hS4 hA4 hB4 c0 c1 HLs
          go_wp2_with fail
          refine (has_is _ ls k false _ hl5 (by omega) hlsn.out).mono ?_
          rintro e w6 ⟨rfl, hb6⟩
          have hl6 := hl5.keep hb6 (Nat.le_refl _)
          have ha6 := ha5.keep hb6 (Nat.le_refl _)
          have hq6 := hq5.trans (hb6.mono hq5.size)
          clear hb6 hq5 hl5 ha5
          go_wp2_with fail
          refine (len_is _ ls (L - 1) _ hl6 HLr.out.1 (by omega) hlsl.out).mono ?_
          rintro e w7 ⟨rfl, hb7⟩
          have ha7 := ha6.keep hb7 (Nat.le_refl _)
          have hq7 := hq6.trans (hb7.mono hq6.size)
          clear hb7 hq6 hl6 ha6
          go_wp2_with fail
          refine (len_is _ a L _ ha7 HRL.out.1 (by omega) HL.out).mono ?_
          rintro e w8 ⟨rfl, hb8⟩
          have hq8 := hq7.trans (hb8.mono hq7.size)
          clear hb8 hq7 ha7
          go_wp2
          go_roundw
          case rel => exact ⟨k + 1, by omega, by rw [show (((k + 1 : Nat) : Int)) = (k : Int) + 1 from by omega, HC1.out], by go_num, hq8⟩
          case measure => simp [intOf]; omega
        · have HX : Hid (hasR a k = false) := has_of _ _ _ (by simp [hx])
          have HAk : Hid (hasR A k = false) := has_of _ _ _ (by rw [HmA.out]; simp [hx])
          have HBk : Hid (hasR B k = false) := has_of _ _ _ (by rw [HmB.out]; simp [hx])
          have HC1 : Hid (cntR a ((k : Int) + 1) = cntR a k) := by show _ = _; rw [HC.out, if_neg hx]; simp
          have HmS2 : Hid (memR S k ↔ (p ≤ k ∧ (k : Int) < q)) := by show _ ↔ _; rw [HmS.out]; exact ⟨fun h => h.resolve_left hx, .inr⟩
          clear hx HC HmS HmA HmB HLs
          generalize cntR a k = c at *
          by_cases hp : p ≤ k
          · have HSk : Hid (hasR S k = decide ((k : Int) < q)) := has_of _ _ _ (by rw [HmS2.out, decide_eq_true_iff]; exact ⟨fun h => h.2, fun h => ⟨hp, h⟩⟩)
            go_wp2_with fail
            refine (has_is _ a k false _ ha0 (by omega) HX.out).mono ?_
            rintro e w1 ⟨rfl, hb1⟩
            have ha1 := ha0.keep hb1 (Nat.le_refl _)
            have hS1 := hS0.keep hb1 (Nat.le_refl _)
            have hA1 := hA0.keep hb1 (Nat.le_refl _)
            have hB1 := hB0.keep hb1 (Nat.le_refl _)
            have hq1 := hq0.trans (hb1.mono hq0.size)
            have HR1 := Lib.hid (two_below HR0.out hb1 (two_cells HR0.out).2.2.2.2)
            clear hb1 hq0 HR0 ha0 hS0 hA0 hB0
            go_wp2_with fail
            refine (has_is _ S k (decide ((k : Int) < q)) _ hS1 (by omega) HSk.out).mono ?_
            rintro e w2 ⟨rfl, hb2⟩
            have ha2 := ha1.keep hb2 (Nat.le_refl _)
            have hS2 := hS1.keep hb2 (Nat.le_refl _)
            have hA2 := hA1.keep hb2 (Nat.le_refl _)
            have hB2 := hB1.keep hb2 (Nat.le_refl _)
            have hq2 := hq1.trans (hb2.mono hq1.size)
            have HR2 := Lib.hid (two_below HR1.out hb2 (two_cells HR1.out).2.2.2.2)
            clear hb2 hq1 HR1 ha1 hS1 hA1 hB1
            obtain ⟨c0, c1, _, _, _⟩ := two_cells HR2.out
            go_wp2_with fail
            refine (has_is _ A k false _ hA2 (by omega) HAk.out).mono ?_
            rintro e w3 ⟨rfl, hb3⟩
            have ha3 := ha2.keep hb3 (Nat.le_refl _)
            have hS3 := hS2.keep hb3 (Nat.le_refl _)
            have hA3 := hA2.keep hb3 (Nat.le_refl _)
            have hB3 := hB2.keep hb3 (Nat.le_refl _)
            have hq3 := hq2.trans (hb3.mono hq2.size)
            have HR3 := Lib.hid (two_below HR2.out hb3 (two_cells HR2.out).2.2.2.2)
            clear hb3 hq2 HR2 ha2 hS2 hA2 hB2
            go_wp2_with fail
            refine (has_is _ B k false _ hB3 (by omega) HBk.out).mono ?_
            rintro e w4 ⟨rfl, hb4⟩
            have ha4 := ha3.keep hb4 (Nat.le_refl _)
            have hS4 := hS3.keep hb4 (Nat.le_refl _)
            have hA4 := hA3.keep hb4 (Nat.le_refl _)
            have hB4 := hB3.keep hb4 (Nat.le_refl _)
            have hq4 := hq3.trans (hb4.mono hq3.size)
            have HR4 := Lib.hid (two_below HR3.out hb4 (two_cells HR3.out).2.2.2.2)
            clear hb4 hq3 HR3 ha3 hS3 hA3 hB3
            go_wp2_with fail
            refine (less_no _ a k _ ha4 (by omega) HX.out).mono ?_
            rintro e w5 ⟨rfl, hb5⟩
            have hq5 := hq4.trans (hb5.mono hq4.size)
            clear hb5 hq4 HR4 ha4 hS4 hA4 hB4 c0 c1
            go_wp2
            go_roundw
            case rel => exact ⟨k + 1, by omega, by rw [show (((k + 1 : Nat) : Int)) = (k : Int) + 1 from by omega, HC1.out], by go_num, hq5⟩
            case measure => simp [intOf]; omega
          · have HSk : Hid (hasR S k = false) := has_of _ _ _ (by rw [HmS2.out]; simp; omega)
            have dp : decide (p ≤ (k : Int)) = false := by simpa using hp
            clear hp
            go_wp2_with fail
            refine (has_is _ a k false _ ha0 (by omega) HX.out).mono ?_
            rintro e w1 ⟨rfl, hb1⟩
            have ha1 := ha0.keep hb1 (Nat.le_refl _)
            have hS1 := hS0.keep hb1 (Nat.le_refl _)
            have hA1 := hA0.keep hb1 (Nat.le_refl _)
            have hB1 := hB0.keep hb1 (Nat.le_refl _)
            have hq1 := hq0.trans (hb1.mono hq0.size)
            have HR1 := Lib.hid (two_below HR0.out hb1 (two_cells HR0.out).2.2.2.2)
            clear hb1 hq0 HR0 ha0 hS0 hA0 hB0
            go_wp2_with fail
            refine (has_is _ S k false _ hS1 (by omega) HSk.out).mono ?_
            rintro e w2 ⟨rfl, hb2⟩
            have ha2 := ha1.keep hb2 (Nat.le_refl _)
            have hS2 := hS1.keep hb2 (Nat.le_refl _)
            have hA2 := hA1.keep hb2 (Nat.le_refl _)
            have hB2 := hB1.keep hb2 (Nat.le_refl _)
            have hq2 := hq1.trans (hb2.mono hq1.size)
            have HR2 := Lib.hid (two_below HR1.out hb2 (two_cells HR1.out).2.2.2.2)
            clear hb2 hq1 HR1 ha1 hS1 hA1 hB1
            obtain ⟨c0, c1, _, _, _⟩ := two_cells HR2.out
            go_wp2_with fail
            refine (has_is _ A k false _ hA2 (by omega) HAk.out).mono ?_
            rintro e w3 ⟨rfl, hb3⟩
            have ha3 := ha2.keep hb3 (Nat.le_refl _)
            have hS3 := hS2.keep hb3 (Nat.le_refl _)
            have hA3 := hA2.keep hb3 (Nat.le_refl _)
            have hB3 := hB2.keep hb3 (Nat.le_refl _)
            have hq3 := hq2.trans (hb3.mono hq2.size)
            have HR3 := Lib.hid (two_below HR2.out hb3 (two_cells HR2.out).2.2.2.2)
            clear hb3 hq2 HR2 ha2 hS2 hA2 hB2
            go_wp2_with fail
            refine (has_is _ B k false _ hB3 (by omega) HBk.out).mono ?_
            rintro e w4 ⟨rfl, hb4⟩
            have ha4 := ha3.keep hb4 (Nat.le_refl _)
            have hS4 := hS3.keep hb4 (Nat.le_refl _)
            have hA4 := hA3.keep hb4 (Nat.le_refl _)
            have hB4 := hB3.keep hb4 (Nat.le_refl _)
            have hq4 := hq3.trans (hb4.mono hq3.size)
            have HR4 := Lib.hid (two_below HR3.out hb4 (two_cells HR3.out).2.2.2.2)
            clear hb4 hq3 HR3 ha3 hS3 hA3 hB3
            go_wp2_with fail
            refine (less_no _ a k _ ha4 (by omega) HX.out).mono ?_
            rintro e w5 ⟨rfl, hb5⟩
            have hq5 := hq4.trans (hb5.mono hq4.size)
            clear hb5 hq4 HR4 ha4 hS4 hA4 hB4 c0 c1
            go_wp2
            go_roundw
            case rel => exact ⟨k + 1, by omega, by rw [show (((k + 1 : Nat) : Int)) = (k : Int) + 1 from by omega, HC1.out], by go_num, hq5⟩
            case measure => simp [intOf]; omega
      · go_wp2
        go_meet
        exact hq0
  case rest =>
  have hq := hcut
  have h12 := hs12.keep hq (Nat.le_refl _)
  have ha := hsac.keep hq (Nat.le_refl _)
  have hS := hsc.keep hq (Nat.le_refl _)
  have hA := hs1c.keep hq (Nat.le_refl _)
  have hB := hs2c.keep hq (Nat.le_refl _)
  have hbz := hb0c.trans (hq.mono hb0c.size)
  clear hcut hq hs12 hsac hsc hs1c hs2c hb0c HRBc
  go_wp2_with fail
  refine (same_yes _ _ _ _ _ h12 ha rfl).mono ?_
  rintro e w1 ⟨rfl, hb1⟩
  have hS1 := hS.keep hb1 (Nat.le_refl _)
  have hA1 := hA.keep hb1 (Nat.le_refl _)
  have hB1 := hB.keep hb1 (Nat.le_refl _)
  have hbz1 := hbz.trans (hb1.mono hbz.size)
  clear hb1 hbz hS hA hB h12 ha
  go_wp2_with fail
  refine (row_yes _ S _ hS1 HS.out.1).mono ?_
  rintro e w2 ⟨rfl, hb2⟩
  have hA2 := hA1.keep hb2 (Nat.le_refl _)
  have hB2 := hB1.keep hb2 (Nat.le_refl _)
  have hbz2 := hbz1.trans (hb2.mono hbz1.size)
  clear hb2 hbz1 hS1 hA1 hB1
  go_wp2_with fail
  refine (row_yes _ A _ hA2 HT.out.1).mono ?_
  rintro e w3 ⟨rfl, hb3⟩
  have hB3 := hB2.keep hb3 (Nat.le_refl _)
  have hbz3 := hbz2.trans (hb3.mono hbz2.size)
  clear hb3 hbz2 hA2 hB2
  go_wp2_with fail
  refine (row_yes _ B _ hB3 HT.out.2.1).mono ?_
  rintro e w4 ⟨rfl, hb4⟩
  have hbz4 := hbz3.trans (hb4.mono hbz3.size)
  clear hb4 hbz3 hB3
  go_wp2
  go_ret
  exact ⟨rfl, hbz4⟩

end Go.Proofs.Ytbbjnjfakgjpcaa
