/- The walk of the reference's Same. -/
import Derived.Test.YtckonmlcgfbojaaLWkE
namespace Go.Proofs.Ytckonmlcgfbojaa
open Go.RowKit

set_option maxRecDepth 100000 in
set_option maxHeartbeats 8000000 in
theorem rsame_any (x y : BkC) (a b : Bk) (w : World) (h : BkM w x a) (h' : BkM w y b) :
    Calls Try.prog 14 #[aBk x, aBk y] w fun e w' => e = .returned (.bool (decide (a = b))) ∧ Below w.heap.size w w' := by
  obtain ⟨⟨ca, cn, cc⟩, ⟨fa, f_n, fc⟩, ⟨la, ln, lc⟩, ⟨ba, b_n, bc⟩⟩ := x
  obtain ⟨⟨ca', cn', cc'⟩, ⟨fa', f_n', fc'⟩, ⟨la', ln', lc'⟩, ⟨ba', b_n', bc'⟩⟩ := y
  obtain ⟨a1, a2, a3, a4⟩ := a
  obtain ⟨b1, b2, b3, b4⟩ := b
  obtain ⟨hc, hf, hl, hb0⟩ := h
  obtain ⟨hc', hf', hl', hb0'⟩ := h'
  generalize hres : decide ((⟨a1, a2, a3, a4⟩ : Bk) = ⟨b1, b2, b3, b4⟩) = res
  have HRES := Lib.hid hres
  clear hres
  obtain ⟨xs, hx, hxa⟩ := hl
  obtain ⟨ys, hy, hya⟩ := hl'
  obtain ⟨hn, hcap, hm⟩ := Sl.lens hc
  obtain ⟨hn', hcap', hm'⟩ := Sl.lens hc'
  obtain ⟨hn2, hcap2, hm2⟩ := Sl.lens hx
  obtain ⟨hn2', hcap2', hm2'⟩ := Sl.lens hy
  have hlx := hxa.len
  have hly := hya.len
  simp only at hc hf hx hb0 hc' hf' hy hb0' hn hcap hm hn' hcap' hm' hn2 hcap2 hm2 hn2' hcap2' hm2' hlx hly hxa hya
  rw [hlx] at hn2 hcap2
  rw [hly] at hn2' hcap2'
  subst hn hn' hn2 hn2'
  have HLX := Lib.hid hlx
  have HLY := Lib.hid hly
  clear hlx hly
  have hb1 : Below w.heap.size w ((w.alloc (.cells #[.slice ca a1.length cc, .slice fa f_n fc, .slice la a3.length lc, .slice ba b_n bc] 32)).alloc (.cells #[.slice ca' b1.length cc', .slice fa' f_n' fc', .slice la' b3.length lc', .slice ba' b_n' bc'] 32)) := ((Below.refl _ _).alloc (Nat.le_refl _) _).alloc (by simp) _
  have k1 := alloc_first w (.cells #[.slice ca a1.length cc, .slice fa f_n fc, .slice la a3.length lc, .slice ba b_n bc] 32) (.cells #[.slice ca' b1.length cc', .slice fa' f_n' fc', .slice la' b3.length lc', .slice ba' b_n' bc'] 32)
  have k2 := alloc_second w (.cells #[.slice ca a1.length cc, .slice fa f_n fc, .slice la a3.length lc, .slice ba b_n bc] 32) (.cells #[.slice ca' b1.length cc', .slice fa' f_n' fc', .slice la' b3.length lc', .slice ba' b_n' bc'] 32)
  have hz2 : w.heap.size + 1 < ((w.alloc (.cells #[.slice ca a1.length cc, .slice fa f_n fc, .slice la a3.length lc, .slice ba b_n bc] 32)).alloc (.cells #[.slice ca' b1.length cc', .slice fa' f_n' fc', .slice la' b3.length lc', .slice ba' b_n' bc'] 32)).heap.size := by simp
  have HK1 := Lib.hid k1
  have HK2 := Lib.hid k2
  clear k1 k2
  change Calls Try.prog _ #[.agg #[.slice ca a1.length cc, .slice fa f_n fc, .slice la a3.length lc, .slice ba b_n bc], .agg #[.slice ca' b1.length cc', .slice fa' f_n' fc', .slice la' b3.length lc', .slice ba' b_n' bc']] w _
  go_enter Try.func14, Try.ntmps14
  go_upto_region 1 with fail
  generalize (w.alloc (.cells #[.slice ca a1.length cc, .slice fa f_n fc, .slice la a3.length lc, .slice ba b_n bc] 32)).alloc (.cells #[.slice ca' b1.length cc', .slice fa' f_n' fc', .slice la' b3.length lc', .slice ba' b_n' bc'] 32) = w2 at *
  have hc2 := SlT.keep hc hb1 (Nat.le_refl _)
  have hc2' := SlT.keep hc' hb1 (Nat.le_refl _)
  have hf2 := SlR.keep hf hb1 (Nat.le_refl _)
  have hf2' := SlR.keep hf' hb1 (Nat.le_refl _)
  have hx2 := SlT.keep hx hb1 (Nat.le_refl _)
  have hy2 := SlT.keep hy hb1 (Nat.le_refl _)
  have hu2 := SlI.keep hb0 hb1 (Nat.le_refl _)
  have hu2' := SlI.keep hb0' hb1 (Nat.le_refl _)
  have HXA := Lib.hid (All2.imp (fun _ _ r => LsM.keep r hb1 (Nat.le_refl _)) hxa)
  have HYA := Lib.hid (All2.imp (fun _ _ r => LsM.keep r hb1 (Nat.le_refl _)) hya)
  clear hc hc' hf hf' hx hy hb0 hb0' hxa hya
  go_cut [0, 1, 38] (fun _ _ v38 wx => v38 = .bool (!(decide (a1.length = b1.length) && (decide (a3.length = b3.length) && (decide (a2 = b2) && decide (a4 = b4))))) ∧ Below w2.heap.size w2 wx)
  case first =>
    obtain ⟨q0, q1, q2, q3, _⟩ := four_cells HK1.out
    obtain ⟨p0, p1, p2, p3, _⟩ := four_cells HK2.out
    have KS : Hid (∀ W, Below w2.heap.size w2 W → (W.cell? ⟨w.heap.size, 3, none⟩ = some (.slice ba b_n bc) ∧ W.cell? ⟨w.heap.size + 1, 3, none⟩ = some (.slice ba' b_n' bc'))) := fun W hW => ⟨by rw [hW.cell (p := ⟨w.heap.size, 3, none⟩) (by show w.heap.size < _; omega)]; exact q3, by rw [hW.cell (p := ⟨w.heap.size + 1, 3, none⟩) hz2]; exact p3⟩
    go_wp2_with (first
      | (go_at_call 35; refine (rows_any _ _ _ _ _ hf2 hf2').mono ?_; rintro e w3 ⟨rfl, hb3⟩; obtain ⟨c6, c6'⟩ := KS.out _ hb3)
      | (go_at_call 36; refine (ints_any _ _ _ _ _ (SlI.keep hu2 hb3 (Nat.le_refl _)) (SlI.keep hu2' hb3 (Nat.le_refl _))).mono ?_; rintro e w4 ⟨rfl, hb4⟩))
    all_goals go_meet
    all_goals refine ⟨?_, ?_⟩
    all_goals first
      | exact hb3.trans (hb4.mono hb3.size)
      | exact hb3
      | exact Below.refl _ _
      | (simp [*]; done)
      | (simp [*]; omega)
      | (have gl : a1.length = b1.length := by omega
         have gl2 : a3.length = b3.length := by omega
         simp [*]; done)
      | (have gl : ¬ a1.length = b1.length := by omega
         simp [*]; done)
      | (have gl : ¬ a3.length = b3.length := by omega
         simp [*]; done)
      | (have gl : a1.length = b1.length := by omega
         have gl2 : ¬ a3.length = b3.length := by omega
         simp [*]; done)
  case rest =>
  obtain ⟨hv, hb⟩ := hcut
  generalize hbb : (decide (a1.length = b1.length) && (decide (a3.length = b3.length) && (decide (a2 = b2) && decide (a4 = b4)))) = bb at *
  subst hv
  have HNF : Hid (decide (a1 = b1) = false ∨ decide (a3 = b3) = false ∨ bb = false → res = false) := fun hh => by
    rw [← HRES.out, decide_eq_false_iff_not]
    intro e
    injection e with e1 e2 e3 e4
    subst e1 e2 e3 e4
    rcases hh with hh | hh | hh
    · simp at hh
    · simp at hh
    · rw [hh] at hbb; simp at hbb
  cases bb with
  | false =>
    have hb9 := hb1.trans (hb.mono hb1.size)
    clear hbb
    go_wp2
    go_ret
    exact ⟨ret_bool (by rw [HNF.out (.inr (.inr (by first | rfl | trivial)))]), hb9⟩
  | true =>
    simp only [Bool.and_eq_true, decide_eq_true_iff] at hbb
    obtain ⟨e1, e2, e3, e4⟩ := hbb
    have HTF : Hid (a1 = b1 → a3 = b3 → res = true) := fun h1 h2 => by
      rw [← HRES.out]
      subst h1 h2 e3 e4
      simp
    have HLEN := Lib.hid e1
    have HLEN2 := Lib.hid e2
    clear e1 e2 e3 e4
    go_upto_block 0 with fail
    go_cut [5] (fun _ wx => a1 = b1 ∧ Below w2.heap.size w2 wx)
    case first =>
      go_wp2
      go_loopw [5] (fun vi wr => ∃ k : Nat, k ≤ a1.length ∧ vi = .int .i64 k ∧ a1.take k = b1.take k ∧ Below w2.heap.size w2 wr) (fun vi _ => a1.length - (intOf vi).toNat)
      case atStart => exact ⟨0, Nat.zero_le _, rfl, rfl, hb⟩
      case round =>
        obtain ⟨k, hk, rfl, htk, hbr⟩ := hrel
        have HT := Lib.hid htk
        clear htk
        obtain ⟨q0, q1, q2, q3, _⟩ := four_cells (block_below HK1.out hbr (by omega))
        obtain ⟨p0, p1, p2, p3, _⟩ := four_cells (block_below HK2.out hbr hz2)
        clear q1 q2 q3 p1 p2 p3
        rcases Nat.lt_or_ge k a1.length with hlt | hge
        · have hltm : k < b1.length := by rw [← HLEN.out]; exact hlt
          obtain ⟨b, off, rfl, hbl, c0, c1, c2, c3, c4, c5, c6⟩ := SlT.ct hc2 hbr (Nat.le_refl _) k hlt
          obtain ⟨b', off', rfl, hbl', d0, d1, d2, d3, d4, d5, d6⟩ := SlT.ct hc2' hbr (Nat.le_refl _) k hltm
          have HS : Hid (a1[k] = b1[k] → a1.take (k + 1) = b1.take (k + 1)) := fun hh => by rw [take_snoc a1 k hlt, take_snoc b1 k hltm, HT.out, hh]
          have HNE : Hid (a1[k] ≠ b1[k] → decide (a1 = b1) = false) := fun hh => by
            rw [decide_eq_false_iff_not]; rintro rfl; exact hh rfl
          have hbe : Below w.heap.size w wr := hb1.trans (hbr.mono hb1.size)
          have klt : (k : Int) < a1.length := by omega
          have kltm : (k : Int) < b1.length := by omega
          generalize a1[k] = r at *
          generalize b1[k] = r' at *
          obtain ⟨r1, r2, r3, r4, r5, r6, r7⟩ := r
          obtain ⟨t1, t2, t3, t4, t5, t6, t7⟩ := r'
          simp only at c0 c1 c2 c3 c4 c5 c6 d0 d1 d2 d3 d4 d5 d6
          by_cases g0 : r1 = t1
          · subst g0
            by_cases g1 : r2 = t2
            · subst g1
              by_cases g2 : r3 = t3
              · subst g2
                by_cases g3 : r4 = t4
                · subst g3
                  by_cases g4 : r5 = t5
                  · subst g4
                    by_cases g5 : r6 = t6
                    · subst g5
                      by_cases g6 : r7 = t7
                      · subst g6
                        have HSE := Lib.hid (HS.out (by first | rfl | trivial))
                        clear HS HNE
                        go_wp2
                        go_quiet (fail)
                        go_wp2
                        go_roundw
                        case rel => exact ⟨k + 1, by omega, by go_num, HSE.out, below_drewN hbr _⟩
                        case measure => simp [intOf]; omega
                      · have s1 : (r7 == t7) = false := by simpa using g6
                        have HN := Lib.hid g6
                        clear g6
                        have HF2 := Lib.hid (HNE.out (by intro e; injection e with e1 e2 e3 e4 e5 e6 e7; exact HN.out e7))
                        clear HS HNE
                        go_wp2
                        go_quiet (fail)
                        go_wp2
                        go_ret
                        exact ⟨ret_bool (by rw [HNF.out (.inl HF2.out)]), below_drewN hbe _⟩
                    · have s1 : (r6 == t6) = false := by simpa using g5
                      have HN := Lib.hid g5
                      clear g5
                      have HF2 := Lib.hid (HNE.out (by intro e; injection e with e1 e2 e3 e4 e5 e6 e7; exact HN.out e6))
                      clear HS HNE
                      go_wp2
                      go_quiet (fail)
                      go_wp2
                      go_ret
                      exact ⟨ret_bool (by rw [HNF.out (.inl HF2.out)]), below_drewN hbe _⟩
                  · have s1 : (r5 == t5) = false := by simpa using g4
                    have HN := Lib.hid g4
                    clear g4
                    have HF2 := Lib.hid (HNE.out (by intro e; injection e with e1 e2 e3 e4 e5 e6 e7; exact HN.out e5))
                    clear HS HNE
                    go_wp2
                    go_quiet (fail)
                    go_wp2
                    go_ret
                    exact ⟨ret_bool (by rw [HNF.out (.inl HF2.out)]), below_drewN hbe _⟩
                · have s1 : (r4 == t4) = false := by simpa using g3
                  have HN := Lib.hid g3
                  clear g3
                  have HF2 := Lib.hid (HNE.out (by intro e; injection e with e1 e2 e3 e4 e5 e6 e7; exact HN.out e4))
                  clear HS HNE
                  go_wp2
                  go_quiet (fail)
                  go_wp2
                  go_ret
                  exact ⟨ret_bool (by rw [HNF.out (.inl HF2.out)]), below_drewN hbe _⟩
              · have s1 : (r3 == t3) = false := by simpa using g2
                have HN := Lib.hid g2
                clear g2
                have HF2 := Lib.hid (HNE.out (by intro e; injection e with e1 e2 e3 e4 e5 e6 e7; exact HN.out e3))
                clear HS HNE
                go_wp2
                go_quiet (fail)
                go_wp2
                go_ret
                exact ⟨ret_bool (by rw [HNF.out (.inl HF2.out)]), below_drewN hbe _⟩
            · have s1 : (r2 == t2) = false := by simpa using g1
              have HN := Lib.hid g1
              clear g1
              have HF2 := Lib.hid (HNE.out (by intro e; injection e with e1 e2 e3 e4 e5 e6 e7; exact HN.out e2))
              clear HS HNE
              go_wp2
              go_quiet (fail)
              go_wp2
              go_ret
              exact ⟨ret_bool (by rw [HNF.out (.inl HF2.out)]), below_drewN hbe _⟩
          · have s1 : (r1.toList == t1.toList) = false := by rw [key_eq]; simpa using g0
            have HN := Lib.hid g0
            clear g0
            have HF2 := Lib.hid (HNE.out (by intro e; injection e with e1 e2 e3 e4 e5 e6 e7; exact HN.out e1))
            clear HS HNE
            go_wp2
            go_quiet (fail)
            go_wp2
            go_ret
            exact ⟨ret_bool (by rw [HNF.out (.inl HF2.out)]), below_drewN hbe _⟩
        · have e1 : decide (k < a1.length) = false := by simpa using hge
          have HEQ : Hid (a1 = b1) := by
            show _ = _
            have := HT.out
            rw [List.take_of_length_le (by omega), List.take_of_length_le (by have := HLEN.out; omega)] at this
            exact this
          go_wp2
          go_meet
          exact ⟨HEQ.out, hbr⟩
    case rest =>
    obtain ⟨he1, hbc⟩ := hcut
    have HE1 := Lib.hid he1
    clear he1 hb
    go_wp2
    go_loopw [6] (fun vi wr => ∃ k : Nat, k ≤ a3.length ∧ vi = .int .i64 k ∧ a3.take k = b3.take k ∧ Below w2.heap.size w2 wr) (fun vi _ => a3.length - (intOf vi).toNat)
    case atStart => exact ⟨0, Nat.zero_le _, rfl, rfl, hbc⟩
    case round =>
      obtain ⟨k, hk, rfl, htk, hbr⟩ := hrel
      have HT := Lib.hid htk
      clear htk hbc
      have hbe : Below w.heap.size w wr := hb1.trans (hbr.mono hb1.size)
      obtain ⟨_, _, n2, _, _⟩ := four_cells (block_below HK1.out hbr (by omega))
      rcases Nat.lt_or_ge k a3.length with hlt | hge
      · have hltm : k < b3.length := by rw [← HLEN2.out]; exact hlt
        have hltx : k < xs.length := by rw [HLX.out]; exact hlt
        have hlty : k < ys.length := by rw [HLY.out]; exact hltm
        have hMx := All2.at HXA.out k hltx hlt
        have hMy := All2.at HYA.out k hlty hltm
        rw [← HLX.out] at hx2
        rw [← HLY.out] at hy2
        obtain ⟨b, off, rfl, hbl, -⟩ := SlT.ls hx2 hbr (Nat.le_refl _) k hltx
        obtain ⟨b', off', rfl, hbl', -⟩ := SlT.ls hy2 hbr (Nat.le_refl _) k hlty
        have KS : Hid (∀ W, Below w2.heap.size w2 W → (Below w2.heap.size w2 W ∧
            W.cell? ⟨w.heap.size, 2, none⟩ = some (.slice (some ⟨b, off, none⟩) a3.length lc) ∧ W.cell? ⟨w.heap.size + 1, 2, none⟩ = some (.slice (some ⟨b', off', none⟩) b3.length lc') ∧
            W.cell? ⟨b, off + k * 7, none⟩ = some (.int .i64 xs[k].dev) ∧ W.cell? ⟨b, off + k * 7 + 1, none⟩ = some (.int .i64 xs[k].epoch) ∧ W.cell? ⟨b, off + k * 7 + 2, none⟩ = some (.int .i64 xs[k].unt) ∧ W.cell? ⟨b, off + k * 7 + 3, none⟩ = some (.int .i64 xs[k].last) ∧ W.cell? ⟨b, off + k * 7 + 4, none⟩ = some xs[k].s.v ∧ W.cell? ⟨b, off + k * 7 + 5, none⟩ = some xs[k].i.v ∧ W.cell? ⟨b, off + k * 7 + 6, none⟩ = some xs[k].u.v ∧
            W.cell? ⟨b', off' + k * 7, none⟩ = some (.int .i64 ys[k].dev) ∧ W.cell? ⟨b', off' + k * 7 + 1, none⟩ = some (.int .i64 ys[k].epoch) ∧ W.cell? ⟨b', off' + k * 7 + 2, none⟩ = some (.int .i64 ys[k].unt) ∧ W.cell? ⟨b', off' + k * 7 + 3, none⟩ = some (.int .i64 ys[k].last) ∧ W.cell? ⟨b', off' + k * 7 + 4, none⟩ = some ys[k].s.v ∧ W.cell? ⟨b', off' + k * 7 + 5, none⟩ = some ys[k].i.v ∧ W.cell? ⟨b', off' + k * 7 + 6, none⟩ = some ys[k].u.v)) := fun W hW => by
          obtain ⟨q0, q1, q2, q3, _⟩ := four_cells (block_below HK1.out hW (by omega))
          obtain ⟨p0, p1, p2, p3, _⟩ := four_cells (block_below HK2.out hW hz2)
          obtain ⟨_, _, he, _, c0, c1, c2, c3, c4, c5, c6⟩ := SlT.ls hx2 hW (Nat.le_refl _) k hltx
          obtain ⟨_, _, he', _, d0, d1, d2, d3, d4, d5, d6⟩ := SlT.ls hy2 hW (Nat.le_refl _) k hlty
          injection he with he
          injection he with he1 he2 _
          injection he' with he'
          injection he' with he1' he2' _
          subst he1 he2 he1' he2'
          exact ⟨hW, q2, p2, c0, c1, c2, c3, c4, c5, c6, d0, d1, d2, d3, d4, d5, d6⟩
        have HS : Hid (decide (a3[k] = b3[k]) = true → a3.take (k + 1) = b3.take (k + 1)) := fun hh => by rw [take_snoc a3 k hlt, take_snoc b3 k hltm, HT.out, of_decide_eq_true hh]
        have HNE : Hid (decide (a3[k] = b3[k]) = false → decide (a3 = b3) = false) := fun hh => by
          rw [decide_eq_false_iff_not] at hh ⊢; rintro rfl; exact hh rfl
        have HSL : Hid (∀ W, Below w2.heap.size w2 W → Calls Try.prog 37 #[aLs xs[k], aLs ys[k]] W fun e w' => e = .returned (.bool (decide (a3[k] = b3[k]))) ∧ Below w2.heap.size w2 w') := fun W hW =>
          (sameLease_any xs[k] ys[k] a3[k] b3[k] W (hMx.keep hW (Nat.le_refl _)) (hMy.keep hW (Nat.le_refl _))).mono fun _ _ ⟨g1, g2⟩ => ⟨g1, hW.trans (g2.mono hW.size)⟩
        have klt : (k : Int) < a3.length := by omega
        have kltm : (k : Int) < b3.length := by omega
        have k0 : (0 : Int) ≤ (k : Int) := by omega
        clear hMx hMy hc2 hc2' hf2 hf2' hu2 hu2' hx2 hy2
        generalize decide (a3[k] = b3[k]) = q at *
        generalize xs[k] = r at *
        generalize ys[k] = r' at *
        obtain ⟨r1, r2, r3, r4, ⟨r5, r6, r7⟩, ⟨r8, r9, r10⟩, ⟨r11, r12, r13⟩⟩ := r
        obtain ⟨t1, t2, t3, t4, ⟨t5, t6, t7⟩, ⟨t8, t9, t10⟩, ⟨t11, t12, t13⟩⟩ := r'
        simp only [Sv.v] at KS
        go_upto_region 11 with (fail)
        go_cut [75] (fun v75 wx => v75 = .bool (!q) ∧ Below w2.heap.size w2 wx)
        case first =>
          first
            | (go_region_held3 (fun w' => Below w2.heap.size w2 w' ∧ w'.cell? ⟨w.heap.size, 2, none⟩ = some (.slice (some ⟨b, off, none⟩) a3.length lc) ∧ w'.cell? ⟨w.heap.size + 1, 2, none⟩ = some (.slice (some ⟨b', off', none⟩) b3.length lc') ∧ w'.cell? ⟨b, off + k * 7, none⟩ = some (.int .i64 r1) ∧ w'.cell? ⟨b, off + k * 7 + 1, none⟩ = some (.int .i64 r2) ∧ w'.cell? ⟨b, off + k * 7 + 2, none⟩ = some (.int .i64 r3) ∧ w'.cell? ⟨b, off + k * 7 + 3, none⟩ = some (.int .i64 r4) ∧ w'.cell? ⟨b, off + k * 7 + 4, none⟩ = some (.slice r5 r6 r7) ∧ w'.cell? ⟨b, off + k * 7 + 5, none⟩ = some (.slice r8 r9 r10) ∧ w'.cell? ⟨b, off + k * 7 + 6, none⟩ = some (.slice r11 r12 r13) ∧ w'.cell? ⟨b', off' + k * 7, none⟩ = some (.int .i64 t1) ∧ w'.cell? ⟨b', off' + k * 7 + 1, none⟩ = some (.int .i64 t2) ∧ w'.cell? ⟨b', off' + k * 7 + 2, none⟩ = some (.int .i64 t3) ∧ w'.cell? ⟨b', off' + k * 7 + 3, none⟩ = some (.int .i64 t4) ∧ w'.cell? ⟨b', off' + k * 7 + 4, none⟩ = some (.slice t5 t6 t7) ∧ w'.cell? ⟨b', off' + k * 7 + 5, none⟩ = some (.slice t8 t9 t10) ∧ w'.cell? ⟨b', off' + k * 7 + 6, none⟩ = some (.slice t11 t12 t13)) (first | assumption | exact KS.out _ (by assumption) | exact KS.out _ hbr.drew)
                (first | (go_at_call 37; (with_reducible refine (HSL.out _ (by go_split_ands; assumption)).mono ?_); rintro e w9 ⟨rfl, hb9⟩)))
            | fail
          all_goals
            go_wp2
            go_meet
            exact ⟨by rfl, by assumption⟩
        case rest =>
        obtain ⟨rfl, hb9⟩ := hcut
        have hbe9 := hb1.trans (hb9.mono hb1.size)
        clear KS HSL
        cases q with
        | true =>
          have HSE := Lib.hid (HS.out (by first | rfl | trivial))
          clear HS HNE
          go_wp2
          go_roundw
          case rel => exact ⟨k + 1, by omega, by go_num, HSE.out, hb9⟩
          case measure => simp [intOf]; omega
        | false =>
          have HF2 := Lib.hid (HNE.out (by first | rfl | trivial))
          clear HS HNE
          go_wp2
          go_ret
          exact ⟨ret_bool (by rw [HNF.out (.inr (.inl HF2.out))]), hbe9⟩
      · have e1 : decide (k < a3.length) = false := by simpa using hge
        have HEQ : Hid (a3 = b3) := by
          show _ = _
          have := HT.out
          rw [List.take_of_length_le (by omega), List.take_of_length_le (by have := HLEN2.out; omega)] at this
          exact this
        obtain ⟨q0, q1, q2, q3, _⟩ := four_cells (block_below HK1.out hbr (by omega))
        clear q0 q1 q3
        go_wp2
        go_ret
        exact ⟨ret_bool (by rw [HTF.out HE1.out HEQ.out]), hbe⟩

end Go.Proofs.Ytckonmlcgfbojaa
