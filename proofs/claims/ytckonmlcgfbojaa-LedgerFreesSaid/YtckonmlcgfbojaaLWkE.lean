/- The walks of the reference's SameLease, Same. -/
import Derived.Test.YtckonmlcgfbojaaLWkD
namespace Go.Proofs.Ytckonmlcgfbojaa
open Go.RowKit

theorem alloc_first (w : World) (a b : Obj) : ((w.alloc a).alloc b).heap[w.heap.size]? = some a := by rw [Below.heap_alloc _ _ _ (by simp), heap_alloc_new]
theorem alloc_second (w : World) (a b : Obj) : ((w.alloc a).alloc b).heap[w.heap.size + 1]? = some b := by
  have h := heap_alloc_new (w.alloc a) b
  simpa using h
theorem seven_cells {w : World} {b : Nat} {a0 a1 a2 a3 a4 a5 a6 : Value} {t : TypeId} (h : w.heap[b]? = some (.cells #[a0, a1, a2, a3, a4, a5, a6] t (0, 0))) :
    w.cell? ⟨b, 0, none⟩ = some a0 ∧ w.cell? ⟨b, 1, none⟩ = some a1 ∧ w.cell? ⟨b, 2, none⟩ = some a2 ∧ w.cell? ⟨b, 3, none⟩ = some a3 ∧ w.cell? ⟨b, 4, none⟩ = some a4 ∧ w.cell? ⟨b, 5, none⟩ = some a5 ∧ w.cell? ⟨b, 6, none⟩ = some a6 ∧ b < w.heap.size := by
  refine ⟨?_, ?_, ?_, ?_, ?_, ?_, ?_, (Array.getElem?_eq_some_iff.1 h).1⟩ <;> simp [World.cell?, h]
theorem four_cells {w : World} {b : Nat} {a0 a1 a2 a3 : Value} {t : TypeId} (h : w.heap[b]? = some (.cells #[a0, a1, a2, a3] t (0, 0))) :
    w.cell? ⟨b, 0, none⟩ = some a0 ∧ w.cell? ⟨b, 1, none⟩ = some a1 ∧ w.cell? ⟨b, 2, none⟩ = some a2 ∧ w.cell? ⟨b, 3, none⟩ = some a3 ∧ b < w.heap.size := by
  refine ⟨?_, ?_, ?_, ?_, (Array.getElem?_eq_some_iff.1 h).1⟩ <;> simp [World.cell?, h]
/-- A block below is as it was. -/
theorem block_below {w w' : World} {b B : Nat} {o : Obj} (h : w.heap[b]? = some o) (hb : Below B w w') (hB : b < B) : w'.heap[b]? = some o := by rw [hb.block b hB]; exact h

set_option maxRecDepth 100000 in
set_option maxHeartbeats 4000000 in
theorem sameLease_any (x y : LsC) (l m : Ls) (w : World) (h : LsM w x l) (h' : LsM w y m) :
    Calls Try.prog 37 #[aLs x, aLs y] w fun e w' => e = .returned (.bool (decide (l = m))) ∧ Below w.heap.size w w' := by
  obtain ⟨X1, X2, X3, X4, ⟨sa, sn, sc⟩, ⟨ia, i_n, ic⟩, ⟨ua, u_n, uc⟩⟩ := x
  obtain ⟨Y1, Y2, Y3, Y4, ⟨sa', sn', sc'⟩, ⟨ia', i_n', ic'⟩, ⟨ua', u_n', uc'⟩⟩ := y
  obtain ⟨l1, l2, l3, l4, l5, l6, l7⟩ := l
  obtain ⟨m1, m2, m3, m4, m5, m6, m7⟩ := m
  obtain ⟨q1, q2, q3, q4, hs, hi, hu⟩ := h
  simp only at q1 q2 q3 q4
  subst q1 q2 q3 q4
  obtain ⟨q1, q2, q3, q4, hs', hi', hu'⟩ := h'
  simp only at q1 q2 q3 q4
  subst q1 q2 q3 q4
  obtain ⟨hn, hcap, hm⟩ := Sl.lens hs
  obtain ⟨hn', hcap', hm'⟩ := Sl.lens hs'
  simp only at hs hi hu hs' hi' hu' hn hcap hm hn' hcap' hm'
  subst hn hn'
  have hb1 : Below w.heap.size w ((w.alloc (.cells #[.int .i64 X1, .int .i64 X2, .int .i64 X3, .int .i64 X4, .slice sa l5.length sc, .slice ia i_n ic, .slice ua u_n uc] 45)).alloc (.cells #[.int .i64 Y1, .int .i64 Y2, .int .i64 Y3, .int .i64 Y4, .slice sa' m5.length sc', .slice ia' i_n' ic', .slice ua' u_n' uc'] 45)) := ((Below.refl _ _).alloc (Nat.le_refl _) _).alloc (by simp) _
  have k1 := alloc_first w (.cells #[.int .i64 X1, .int .i64 X2, .int .i64 X3, .int .i64 X4, .slice sa l5.length sc, .slice ia i_n ic, .slice ua u_n uc] 45) (.cells #[.int .i64 Y1, .int .i64 Y2, .int .i64 Y3, .int .i64 Y4, .slice sa' m5.length sc', .slice ia' i_n' ic', .slice ua' u_n' uc'] 45)
  have k2 := alloc_second w (.cells #[.int .i64 X1, .int .i64 X2, .int .i64 X3, .int .i64 X4, .slice sa l5.length sc, .slice ia i_n ic, .slice ua u_n uc] 45) (.cells #[.int .i64 Y1, .int .i64 Y2, .int .i64 Y3, .int .i64 Y4, .slice sa' m5.length sc', .slice ia' i_n' ic', .slice ua' u_n' uc'] 45)
  have hz2 : w.heap.size + 1 < ((w.alloc (.cells #[.int .i64 X1, .int .i64 X2, .int .i64 X3, .int .i64 X4, .slice sa l5.length sc, .slice ia i_n ic, .slice ua u_n uc] 45)).alloc (.cells #[.int .i64 Y1, .int .i64 Y2, .int .i64 Y3, .int .i64 Y4, .slice sa' m5.length sc', .slice ia' i_n' ic', .slice ua' u_n' uc'] 45)).heap.size := by simp
  have HK1 := Lib.hid k1
  have HK2 := Lib.hid k2
  clear k1 k2
  change Calls Try.prog _ #[.agg #[.int .i64 X1, .int .i64 X2, .int .i64 X3, .int .i64 X4, .slice sa l5.length sc, .slice ia i_n ic, .slice ua u_n uc], .agg #[.int .i64 Y1, .int .i64 Y2, .int .i64 Y3, .int .i64 Y4, .slice sa' m5.length sc', .slice ia' i_n' ic', .slice ua' u_n' uc']] w _
  go_enter Try.func37, Try.ntmps37
  go_upto_region 1 with fail
  generalize (w.alloc (.cells #[.int .i64 X1, .int .i64 X2, .int .i64 X3, .int .i64 X4, .slice sa l5.length sc, .slice ia i_n ic, .slice ua u_n uc] 45)).alloc (.cells #[.int .i64 Y1, .int .i64 Y2, .int .i64 Y3, .int .i64 Y4, .slice sa' m5.length sc', .slice ia' i_n' ic', .slice ua' u_n' uc'] 45) = w2 at *
  have hs2 := hs.keep hb1 (Nat.le_refl _)
  have hs2' := hs'.keep hb1 (Nat.le_refl _)
  have hi2 := SlR.keep hi hb1 (Nat.le_refl _)
  have hi2' := SlR.keep hi' hb1 (Nat.le_refl _)
  have hu2 := SlI.keep hu hb1 (Nat.le_refl _)
  have hu2' := SlI.keep hu' hb1 (Nat.le_refl _)
  clear hs hs' hi hi' hu hu'
  go_cut [0, 1, 56] (fun _ _ v56 wx => v56 = .bool (!(decide (X1 = Y1) && (decide (X2 = Y2) && (decide (X3 = Y3) && (decide (X4 = Y4) && (decide (l5.length = m5.length) && (decide (l6 = m6) && decide (l7 = m7)))))))) ∧ Below w2.heap.size w2 wx)
  case first =>
    obtain ⟨a0, a1, a2, a3, a4, a5, a6, _⟩ := seven_cells HK1.out
    obtain ⟨b0, b1, b2, b3, b4, b5, b6, _⟩ := seven_cells HK2.out
    have KS : Hid (∀ W, Below w2.heap.size w2 W → (W.cell? ⟨w.heap.size, 6, none⟩ = some (.slice ua u_n uc) ∧ W.cell? ⟨w.heap.size + 1, 6, none⟩ = some (.slice ua' u_n' uc'))) := fun W hW => ⟨by rw [hW.cell (p := ⟨w.heap.size, 6, none⟩) (by show w.heap.size < _; omega)]; exact a6, by rw [hW.cell (p := ⟨w.heap.size + 1, 6, none⟩) hz2]; exact b6⟩
    go_wp2_with (first
      | (go_at_call 35; refine (rows_any _ _ _ _ _ hi2 hi2').mono ?_; rintro e w3 ⟨rfl, hb3⟩; obtain ⟨c6, c6'⟩ := KS.out _ hb3)
      | (go_at_call 36; refine (ints_any _ _ _ _ _ (SlI.keep hu2 hb3 (Nat.le_refl _)) (SlI.keep hu2' hb3 (Nat.le_refl _))).mono ?_; rintro e w4 ⟨rfl, hb4⟩))
    all_goals go_meet
    all_goals refine ⟨?_, ?_⟩
    all_goals first
      | exact hb3.trans (hb4.mono hb3.size)
      | exact hb3
      | exact Below.refl _ _
      | (simp [*]; done)
      | (simp [*]; omega)
      | (have gl : ¬ l5.length = m5.length := by omega
         simp [*]; done)
  case rest =>
  obtain ⟨hv, hb⟩ := hcut
  generalize hbb : (decide (X1 = Y1) && (decide (X2 = Y2) && (decide (X3 = Y3) && (decide (X4 = Y4) && (decide (l5.length = m5.length) && (decide (l6 = m6) && decide (l7 = m7))))))) = bb at *
  subst hv
  cases bb with
  | false =>
    have HF : Hid (decide ((⟨X1, X2, X3, X4, l5, l6, l7⟩ : Ls) = ⟨Y1, Y2, Y3, Y4, m5, m6, m7⟩) = false) := by
      show _ = _
      rw [decide_eq_false_iff_not]
      intro e
      injection e with e1 e2 e3 e4 e5 e6 e7
      subst e1 e2 e3 e4 e5 e6 e7
      simp at hbb
    have hb9 := hb1.trans (hb.mono hb1.size)
    clear hbb
    go_wp2
    go_ret
    exact ⟨ret_bool HF.out.symm, hb9⟩
  | true =>
    simp only [Bool.and_eq_true, decide_eq_true_iff] at hbb
    obtain ⟨e1, e2, e3, e4, e5, e6, e7⟩ := hbb
    have HF : Hid (decide ((⟨X1, X2, X3, X4, l5, l6, l7⟩ : Ls) = ⟨Y1, Y2, Y3, Y4, m5, m6, m7⟩) = decide (l5 = m5)) := by
      show _ = _
      rw [decide_eq_decide]
      subst e1 e2 e3 e4 e6 e7
      exact ⟨fun e => by injection e, fun e => by rw [e]⟩
    have HLEN := Lib.hid e5
    clear e1 e2 e3 e4 e5 e6 e7
    go_wp2
    go_loopw [5] (fun vi wr => ∃ k : Nat, k ≤ l5.length ∧ vi = .int .i64 k ∧ l5.take k = m5.take k ∧ Below w2.heap.size w2 wr) (fun vi _ => l5.length - (intOf vi).toNat)
    case atStart => exact ⟨0, Nat.zero_le _, rfl, rfl, hb⟩
    case round =>
      obtain ⟨k, hk, rfl, htk, hbr⟩ := hrel
      have HT := Lib.hid htk
      clear htk
      obtain ⟨a0, a1, a2, a3, a4, a5, a6, _⟩ := seven_cells (block_below HK1.out hbr (by omega))
      obtain ⟨b0, b1, b2, b3, b4, b5, b6, _⟩ := seven_cells (block_below HK2.out hbr hz2)
      clear a0 a1 a2 a3 a5 a6 b0 b1 b2 b3 b5 b6
      rcases Nat.lt_or_ge k l5.length with hlt | hge
      · have hltm : k < m5.length := by rw [← HLEN.out]; exact hlt
        obtain ⟨b, off, rfl, hbl, c0, c1, c2, c3, c4⟩ := SlT.sc hs2 hbr (Nat.le_refl _) k hlt
        obtain ⟨b', off', rfl, hbl', d0, d1, d2, d3, d4⟩ := SlT.sc hs2' hbr (Nat.le_refl _) k hltm
        have HS : Hid (l5[k] = m5[k] → l5.take (k + 1) = m5.take (k + 1)) := fun hh => by rw [take_snoc l5 k hlt, take_snoc m5 k hltm, HT.out, hh]
        have HNE : Hid (l5[k] ≠ m5[k] → decide (l5 = m5) = false) := fun hh => by
          rw [decide_eq_false_iff_not]; rintro rfl; exact hh rfl
        have hbe : Below w.heap.size w wr := hb1.trans (hbr.mono hb1.size)
        have klt : (k : Int) < l5.length := by omega
        have kltm : (k : Int) < m5.length := by omega
        generalize l5[k] = r at *
        generalize m5[k] = r' at *
        obtain ⟨r1, r2, r3, r4, r5⟩ := r
        obtain ⟨t1, t2, t3, t4, t5⟩ := r'
        simp only at c0 c1 c2 c3 c4 d0 d1 d2 d3 d4
        by_cases g0 : r1 = t1
        · subst g0
          by_cases g1 : r2 = t2
          · subst g1
            by_cases g2 : r3 = t3
            · subst g2
              by_cases g3 : r4 = t4
              · subst g3
                by_cases g4 : r5 = t5
                · subst g4
                  have HSE := Lib.hid (HS.out (by first | rfl | trivial))
                  clear HS HNE
                  go_wp2
                  go_quiet (fail)
                  go_wp2
                  go_roundw
                  case rel => exact ⟨k + 1, by omega, by go_num, HSE.out, below_drewN hbr _⟩
                  case measure => simp [intOf]; omega
                · have s1 : (r5 == t5) = false := by simpa using g4
                  have HN := Lib.hid g4
                  clear g4
                  have HF2 := Lib.hid (HNE.out (by intro e; injection e with e1 e2 e3 e4 e5; exact HN.out e5))
                  clear HS HNE
                  go_wp2
                  go_quiet (fail)
                  go_wp2
                  go_ret
                  exact ⟨ret_bool (by rw [HF.out, HF2.out]), below_drewN hbe _⟩
              · have s1 : (r4 == t4) = false := by simpa using g3
                have HN := Lib.hid g3
                clear g3
                have HF2 := Lib.hid (HNE.out (by intro e; injection e with e1 e2 e3 e4 e5; exact HN.out e4))
                clear HS HNE
                go_wp2
                go_quiet (fail)
                go_wp2
                go_ret
                exact ⟨ret_bool (by rw [HF.out, HF2.out]), below_drewN hbe _⟩
            · have s1 : (r3 == t3) = false := by simpa using g2
              have HN := Lib.hid g2
              clear g2
              have HF2 := Lib.hid (HNE.out (by intro e; injection e with e1 e2 e3 e4 e5; exact HN.out e3))
              clear HS HNE
              go_wp2
              go_quiet (fail)
              go_wp2
              go_ret
              exact ⟨ret_bool (by rw [HF.out, HF2.out]), below_drewN hbe _⟩
          · have s1 : (r2 == t2) = false := by simpa using g1
            have HN := Lib.hid g1
            clear g1
            have HF2 := Lib.hid (HNE.out (by intro e; injection e with e1 e2 e3 e4 e5; exact HN.out e2))
            clear HS HNE
            go_wp2
            go_quiet (fail)
            go_wp2
            go_ret
            exact ⟨ret_bool (by rw [HF.out, HF2.out]), below_drewN hbe _⟩
        · have s1 : (r1.toList == t1.toList) = false := by rw [key_eq]; simpa using g0
          have HN := Lib.hid g0
          clear g0
          have HF2 := Lib.hid (HNE.out (by intro e; injection e with e1 e2 e3 e4 e5; exact HN.out e1))
          clear HS HNE
          go_wp2
          go_quiet (fail)
          go_wp2
          go_ret
          exact ⟨ret_bool (by rw [HF.out, HF2.out]), below_drewN hbe _⟩
      · have e1 : decide (k < l5.length) = false := by simpa using hge
        have HEQ : Hid (decide (l5 = m5) = true) := by
          show _ = _
          rw [decide_eq_true_iff]
          have := HT.out
          rw [List.take_of_length_le (by omega), List.take_of_length_le (by have := HLEN.out; omega)] at this
          exact this
        have hbe : Below w.heap.size w wr := hb1.trans (hbr.mono hb1.size)
        go_wp2
        go_ret
        exact ⟨ret_bool (by rw [HF.out, HEQ.out]), hbe⟩

end Go.Proofs.Ytckonmlcgfbojaa
