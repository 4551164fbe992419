/- The walk of the reference's New. -/
import Derived.Test.YtckonmlcgfbojaaLWkI
import Derived.Test.YtckonmlcgfbojaaWkH
import Derived.Test.YtckonmlcgfbojaaLWkD
import Derived.Deep.RegionHeld3
namespace Go.Proofs.Ytckonmlcgfbojaa
open Go.RowKit

theorem addT_nil (r : Rg) : addT [] r = [r] := rfl
theorem addR_nil (r : Rg) : addR [] r = [r] := rfl

set_option maxHeartbeats 1000000 in
/-- The reference's Add where nothing is added to nothing. -/
theorem radd_zero (w : World) : Calls Try.prog 34 #[.slice none 0 0, .agg #[.int .i64 0, .int .i64 0]] w (RetRow w 2 78 0 (cellsR [])) := by
  go_enter Try.func34, Try.ntmps34
  go_wp2
  go_ret
  exact ⟨_, rfl, owns_lit (w.alloc (.cells #[.int .i64 0, .int .i64 0] 78)) _ _ _ 2 #[] 0 (by simp) (by simp) (by omega) rfl, ((Below.refl w.heap.size w).alloc (Nat.le_refl _) _).alloc (by simp) _⟩

/-- The reference's Add of a first row. -/
theorem radd_first (n : Int) (w : World) (h0 : 0 ≤ n) (h1 : n ≤ 1000) : Calls Try.prog 34 #[.slice none 0 0, .agg #[.int .i64 0, .int .i64 n]] w (RetRow w 2 78 (addS [] (0, n)).length (cellsR (addS [] (0, n)))) := by
  by_cases h : 0 < n
  · have := radd_yes (.slice none 0 0) [] 0 n w (SlR.nil w) (by simp) h (by omega) (by omega)
    rw [addR_nil] at this
    have e : addS [] (0, n) = [(0, n)] := by unfold addS; rw [if_neg (by simp only; omega), addT_nil]
    rw [e]; exact this
  · have e : n = 0 := by omega
    subst e
    exact radd_zero w

set_option maxRecDepth 100000 in
set_option maxHeartbeats 8000000 in
theorem rnew_many (v : Value) (l : List Ct) (ids : Int) (w : World) (h : SlCt w v l) (h4 : 4 < l.length) :
    Calls Try.prog 13 #[v, .int .i64 ids] w (RetNew w (newS l ids)) := by
  have HS : Hid (newS l ids = (⟨[], [], [], []⟩, 4)) := by show _ = _; unfold newS; rw [if_pos h4]
  obtain ⟨ao, cap, rfl, hcap, hm⟩ := Sl.shape h
  have g4 : (4 : Int) < l.length := by omega
  clear h
  go_enter Try.func13, Try.ntmps13
  go_wp2
  refine bodyPost_ret (v := .tuple #[.agg #[.slice none 0 0, .slice none 0 0, .slice none 0 0, .slice none 0 0], .int .i64 4]) (by simp [results, Try.results13, go_sem]) rfl ⟨⟨⟨none, 0, 0⟩, ⟨none, 0, 0⟩, ⟨none, 0, 0⟩, ⟨none, 0, 0⟩⟩, by rw [HS.out], by rw [HS.out]; exact bkM_empty _, (Below.refl _ _).alloc (Nat.le_refl _) _⟩

set_option maxRecDepth 100000 in
set_option maxHeartbeats 8000000 in
theorem rnew_few (v : Value) (l : List Ct) (ids : Int) (w : World) (h : SlCt w v l) (h4 : l.length ≤ 4) (hkey : ∀ c ∈ l, c.key.size ≤ maxLen) :
    Calls Try.prog 13 #[v, .int .i64 ids] w (RetNew w (newS l ids)) := by
  obtain ⟨ao, cap, rfl, hcap, hm⟩ := Sl.shape h
  have g4 : decide (4 < (l.length : Int)) = false := by simp; omega
  have g4' : decide (4 < l.length) = false := by simp; omega
  have HERR : Hid (∀ n, (newGo [] l).1 = n → n ≠ 0 → newS l ids = (⟨[], [], [], []⟩, n)) := fun n hn h0 => by
    unfold newS; rw [if_neg (by omega), if_pos (by rw [hn]; exact h0), hn]
  have HKEY := Lib.hid hkey
  clear hkey
  go_enter Try.func13, Try.ntmps13
  go_upto_block 0 with fail
  have hst : NewL w l 0 [] (.slice none 0 0) ((w.alloc (.cells #[.slice none 0 0, .slice none 0 0, .slice none 0 0, .slice none 0 0] 32)).alloc (.cells #[.slice none 0 0, .slice none 0 0, .slice none 0 0, .slice none 0 0] 32)) :=
    ⟨Nat.zero_le _, rfl, rfl, World.ownsRow_nil _ _ _ _, alloc_first _ _ _, alloc_second _ _ _, ((Below.refl _ _).alloc (Nat.le_refl _) _).alloc (by simp) _⟩
  go_cut [7] (fun _ wx => ∃ acc vc, NewL w l l.length acc vc wx)
  case first =>
    go_wp2
    go_loopw [7] (fun vk wr => ∃ (k : Nat) (acc : List Ct) (vc : Value), vk = .int .i64 k ∧ NewL w l k acc vc wr) (fun vk _ => l.length - (intOf vk).toNat)
    case atStart => exact ⟨0, [], _, rfl, hst⟩
    case round =>
      clear hst
      obtain ⟨k, acc, vc, rfl, hN⟩ := hrel
      rcases Nat.lt_or_ge k l.length with hlt | hge
      · obtain ⟨b, off, rfl, hbl, c0, c1, c2, c3, c4, c5, c6⟩ := h.ct hN.bel (Nat.le_refl _) k hlt
        have HM := Lib.hid (HKEY.out l[k] (List.getElem_mem hlt))
        have HARG := Lib.hid (newGo_arg acc l k hlt)
        have HIS := Lib.hid (newGo_is acc l k hlt)
        have HSTEP := Lib.hid (newGo_step acc l k hlt)
        have HBD := Lib.hid (mayS_bd (c := l[k]))
        have klt : (k : Int) < l.length := by omega
        have hz := hN.bel.size
        have hzr : w.heap.size + 1 < wr.heap.size := (Array.getElem?_eq_some_iff.1 hN.k2).1
        have HN := Lib.hid hN
        obtain ⟨d0, d1, d2, d3, _⟩ := four_cells hN.k1
        have f0 := four_free hN.k1 0
        have f1 := four_free hN.k1 1
        have f2 := four_free hN.k1 2
        have f3 := four_free hN.k1 3
        clear hN
        have HCT7 := Lib.hid (fun W (hW : Below wr.heap.size wr W) => h.ct (HN.out.bel.trans (hW.mono HN.out.bel.size)) (Nat.le_refl _) k hlt)
        generalize l[k] = c at *
        have HMAY := Lib.hid (fun W => rmay_any c W)
        obtain ⟨r1, r2, r3, r4, r5, r6, r7⟩ := c
        simp only at c0 c1 c2 c3 c4 c5 c6
        clear d0 d1 d2 d3 f0 f1 f2 f3
        go_wp2_with fail
        obtain ⟨mb, hmb⟩ : ∃ mb, mayS ⟨r1, r2, r3, r4, r5, r6, r7⟩ = mb := ⟨_, rfl⟩
        have hmay := HMAY.out wr
        rw [hmb] at hmay HARG HIS HSTEP HBD
        refine hmay.mono ?_
        rintro e w3 ⟨rfl, hb3⟩
        have HB3 := Lib.hid hb3
        have hz3 := hb3.size
        clear hmay hmb HMAY hb3 c0 c1 c2 c3 c4 c5 c6
        cases mb with
        | false =>
          have HS : Hid (newS l ids = (⟨[], [], [], []⟩, 1)) := HERR.out 1 (by rw [HN.out.go, HARG.out (by first | rfl | trivial)]) (by omega)
          obtain ⟨d0, d1, d2, d3, _⟩ := four_cells (block_below HN.out.k1 HB3.out (by omega))
          have f0 := four_free (block_below HN.out.k1 HB3.out (by omega)) 0
          have f1 := four_free (block_below HN.out.k1 HB3.out (by omega)) 1
          have f2 := four_free (block_below HN.out.k1 HB3.out (by omega)) 2
          have f3 := four_free (block_below HN.out.k1 HB3.out (by omega)) 3
          have hbw := HN.out.bel.trans (HB3.out.mono HN.out.bel.size)
          go_wp2
          refine bodyPost_ret (v := .tuple #[.agg #[.slice none 0 0, .slice none 0 0, .slice none 0 0, .slice none 0 0], .int .i64 1]) (by simp [results, Try.results13, go_sem, *]) rfl ⟨⟨⟨none, 0, 0⟩, ⟨none, 0, 0⟩, ⟨none, 0, 0⟩, ⟨none, 0, 0⟩⟩, by rw [HS.out], by rw [HS.out]; exact bkM_empty _, ?_⟩
          exact (((hbw.setCell (Nat.le_refl _) _).setCell (Nat.le_refl _) _).setCell (Nat.le_refl _) _).setCell (Nat.le_refl _) _
        | true =>
          obtain ⟨b1, b2, b3, b4⟩ := HBD.out (by first | rfl | trivial)
          obtain ⟨aov, capv, rfl, _, _⟩ := owns_shape HN.out.row
          have HE2 := Lib.hid (block_below HN.out.k2 HB3.out hzr)
          go_upto_region 9 with fail
          have hr0 : Below w3.heap.size w3 w3 := Below.refl _ _
          have HPL : Hid (∀ W, Below w3.heap.size w3 W → Calls Try.prog 33 #[.agg #[.slice aov acc.length capv, .slice none 0 0, .slice none 0 0, .slice none 0 0], .string r1] W fun e w' => e = .returned (.int .i64 (ctIx acc r1)) ∧ Below w3.heap.size w3 w') :=
            Lib.hid (fun W hW => (place_any ⟨⟨aov, acc.length, capv⟩, ⟨none, 0, 0⟩, ⟨none, 0, 0⟩, ⟨none, 0, 0⟩⟩ acc r1 W (sl_of_owns (owns_keep (owns_keep HN.out.row HB3.out (Nat.le_refl _)) hW (Nat.le_refl _)))).mono (fun _ _ ⟨he, hb⟩ => ⟨he, hW.trans (hb.mono hW.size)⟩))
          have KS : Hid (∀ W, Below w3.heap.size w3 W → (Below w3.heap.size w3 W ∧ W.cell? ⟨w.heap.size + 1, 0, none⟩ = some (.slice aov acc.length capv) ∧ W.cell? ⟨w.heap.size + 1, 1, none⟩ = some (.slice none 0 0) ∧ W.cell? ⟨w.heap.size + 1, 2, none⟩ = some (.slice none 0 0) ∧ W.cell? ⟨w.heap.size + 1, 3, none⟩ = some (.slice none 0 0) ∧ W.cell? ⟨b, off + k * 7, none⟩ = some (.string r1))) :=
            Lib.hid (fun W hW => by
              obtain ⟨e0, e1, e2, e3, _⟩ := four_cells (block_below HE2.out hW (by omega))
              obtain ⟨bb, oo, hbo, hblb, c0, -⟩ := HCT7.out W (HB3.out.trans (hW.mono hz3))
              injection hbo with hbo
              injection hbo with hbo1 hbo2
              subst hbo1 hbo2
              exact ⟨hW, e0, e1, e2, e3, c0⟩)
          go_cut [34] (fun v34 wx => v34 = .bool (decide (0 ≤ ctIx acc r1)) ∧ Below w3.heap.size w3 wx)
          case first =>
            go_region_held3 (fun w' => Below w3.heap.size w3 w' ∧ w'.cell? ⟨w.heap.size + 1, 0, none⟩ = some (.slice aov acc.length capv) ∧ w'.cell? ⟨w.heap.size + 1, 1, none⟩ = some (.slice none 0 0) ∧ w'.cell? ⟨w.heap.size + 1, 2, none⟩ = some (.slice none 0 0) ∧ w'.cell? ⟨w.heap.size + 1, 3, none⟩ = some (.slice none 0 0) ∧ w'.cell? ⟨b, off + k * 7, none⟩ = some (.string r1))
              (first | assumption | exact KS.out _ (by assumption) | exact KS.out _ hr0.drew)
              ((go_at_call 33; (with_reducible refine (HPL.out _ (by go_split_ands; assumption)).mono ?_); rintro en w9 ⟨rfl, hb9⟩))
            all_goals
              go_wp2
              go_meet
              exact ⟨by rfl, by first | assumption | exact hr0.drew⟩
          case rest =>
          obtain ⟨rfl, hb4⟩ := hcut
          clear HPL KS hr0 HE2
          have HB4 := Lib.hid hb4
          have HB34 := Lib.hid (HB3.out.trans (hb4.mono hz3))
          have hz4 := HB34.out.size
          obtain ⟨bb, oo, hbo, hblb, c0, c1, c2, c3, c4, c5, c6⟩ := HCT7.out wc HB34.out
          injection hbo with hbo
          injection hbo with hbo1 hbo2
          subst hbo1 hbo2
          clear hb4
          by_cases hix : 0 ≤ ctIx acc r1
          · have HS : Hid (newS l ids = (⟨[], [], [], []⟩, 7)) := HERR.out 7 (by rw [HN.out.go, HIS.out (by first | rfl | trivial) hix]) (by omega)
            obtain ⟨d0, d1, d2, d3, _⟩ := four_cells (block_below HN.out.k1 HB34.out (by omega))
            have f0 := four_free (block_below HN.out.k1 HB34.out (by omega)) 0
            have f1 := four_free (block_below HN.out.k1 HB34.out (by omega)) 1
            have f2 := four_free (block_below HN.out.k1 HB34.out (by omega)) 2
            have f3 := four_free (block_below HN.out.k1 HB34.out (by omega)) 3
            have hbw := HN.out.bel.trans (HB34.out.mono HN.out.bel.size)
            have dix : decide (0 ≤ ctIx acc r1) = true := by simpa using hix
            rw [dix]
            clear hix dix
            go_wp2
            refine bodyPost_ret (v := .tuple #[.agg #[.slice none 0 0, .slice none 0 0, .slice none 0 0, .slice none 0 0], .int .i64 7]) (by simp [results, Try.results13, go_sem, *]) rfl ⟨⟨⟨none, 0, 0⟩, ⟨none, 0, 0⟩, ⟨none, 0, 0⟩, ⟨none, 0, 0⟩⟩, by rw [HS.out], by rw [HS.out]; exact bkM_empty _, ?_⟩
            exact (((hbw.setCell (Nat.le_refl _) _).setCell (Nat.le_refl _) _).setCell (Nat.le_refl _) _).setCell (Nat.le_refl _) _
          · have dix : decide (0 ≤ ctIx acc r1) = false := by simpa using hix
            rw [dix]
            have HSTEP2 := Lib.hid (HSTEP.out (by first | rfl | trivial) (by omega))
            have HROW5 := Lib.hid (owns_keep HN.out.row HB34.out (Nat.le_refl _))
            obtain ⟨e0, e1, e2, e3, _⟩ := four_cells (block_below HN.out.k2 HB34.out hzr)
            have HRD : Hid (∀ (W : World) (B : Nat), W.heap.size = B → Rd (W.alloc (.cells #[.string r1, .int .i64 r2, .int .i64 r3, .int .i64 r4, .int .i64 r5, .int .i64 (r4 - r5), .int .i64 (r5 - r3)] 25)) (some ⟨B, 0, none⟩) (cellsT cCt [fill ⟨r1, r2, r3, r4, r5, r6, r7⟩])) := fun W B hW => rd_new W _ hW [.string r1, .int .i64 r2, .int .i64 r3, .int .i64 r4, .int .i64 r5, .int .i64 (r4 - r5), .int .i64 (r5 - r3)] _
            have hk3 : acc.length < 4 := by have := HN.out.len; omega
            have hzq : w.heap.size + 1 < wc.heap.size := by omega
            clear HSTEP HIS HARG hix dix
            go_wp2_with ((with_reducible refine at_slot 56 ?_); refine append_Ct rfl _ _ rfl (w.heap.size + 2) _ acc.length acc rfl ((HROW5.out.alloc _).alloc _) _ 1 1 [fill ⟨r1, r2, r3, r4, r5, r6, r7⟩] rfl rfl (HRD.out _ _ (by simp)) (by omega) (by simp; omega) ?_)
            intro v6 w6 ho6 hg6 hat6
            have hbW : Below w.heap.size w ((wc.alloc (.cells #[.string r1, .int .i64 r2, .int .i64 r3, .int .i64 r4, .int .i64 r5, .int .i64 (r4 - r5), .int .i64 (r5 - r3)] 25)).alloc (.cells #[.string r1, .int .i64 r2, .int .i64 r3, .int .i64 r4, .int .i64 r5, .int .i64 (r4 - r5), .int .i64 (r5 - r3)] 25)) :=
              ((HN.out.bel.trans (HB34.out.mono HN.out.bel.size)).alloc (Nat.le_trans hz hz4) _).alloc (by simp; omega) _
            have hb6 : Below w.heap.size w w6 := hbW.grown hg6 (by simp; omega) (fun g hg => by have := owns_ge HN.out.row g hg; omega)
            have hk1 := (grown_block hg6 (b := w.heap.size) (B := w.heap.size + 2) (by simp; omega) (by omega) (owns_ge HN.out.row)).trans ((Below.heap_alloc _ _ _ (by simp; omega)).trans ((Below.heap_alloc _ _ _ (by omega)).trans (block_below HN.out.k1 HB34.out (by omega))))
            have hk2 := (grown_block hg6 (b := w.heap.size + 1) (B := w.heap.size + 2) (by simp; omega) (by omega) (owns_ge HN.out.row)).trans ((Below.heap_alloc _ _ _ (by simp; omega)).trans ((Below.heap_alloc _ _ _ (by omega)).trans (block_below HN.out.k2 HB34.out hzr)))
            obtain ⟨ao6, cap6, rfl, _, _⟩ := owns_shape ho6
            obtain ⟨g0, g1, g2, g3, _⟩ := four_cells hk2
            have g0f := four_free hk2 0
            have HK1 := Lib.hid hk1
            have HK2 := Lib.hid hk2
            have HO6 := Lib.hid ho6
            clear hk1 hk2 ho6 hg6 hat6 hbW e0 e1 e2 e3 c0 c1 c2 c3 c4 c5 c6
            go_wp2
            go_roundw
            case rel =>
              refine ⟨k + 1, acc ++ [fill ⟨r1, r2, r3, r4, r5, r6, r7⟩], .slice ao6 (acc.length + 1) cap6, by go_num, ⟨by omega, by rw [HN.out.go, HSTEP2.out], by rw [List.length_append, HN.out.len]; rfl, ?_, ?_, ?_, ?_⟩⟩
              · rw [List.length_append]; exact owns_put HO6.out _ (by simp) _
              · rw [set_ne _ _ _ (by simp)]; exact HK1.out
              · exact set_field0 HK2.out _
              · exact hb6.setCell (by simp) _
            case measure => simp [intOf]; omega
      · have hk : k = l.length := by have := hN.le; omega
        subst hk
        have HN := Lib.hid hN
        clear hN
        go_wp2
        go_meet
        exact ⟨acc, vc, HN.out⟩
  case rest =>
  obtain ⟨acc, vc, hN⟩ := hcut
  have HGO : Hid (newGo [] l = (0, acc)) := by show _ = _; rw [hN.go, newGo_end _ _ _ (Nat.le_refl _)]
  have hlen : acc.length ≤ 4 := by rw [hN.len]; exact h4
  have hz := hN.bel.size
  have hzr : w.heap.size + 1 < wc.heap.size := (Array.getElem?_eq_some_iff.1 hN.k2).1
  have HN := Lib.hid hN
  clear hN hst g4 g4'
  by_cases hi : 0 ≤ ids ∧ ids ≤ 1000
  · obtain ⟨hi0, hi1⟩ := hi
    have HS : Hid (newS l ids = (⟨acc, addS [] (0, ids), [], []⟩, 0)) := by show _ = _; unfold newS; rw [if_neg (by omega), HGO.out, if_neg (by simp), if_pos ⟨hi0, hi1⟩]
    obtain ⟨aov, capv, rfl, _, _⟩ := owns_shape HN.out.row
    obtain ⟨e0, e1, e2, e3, _⟩ := four_cells HN.out.k2
    have e1f := four_free HN.out.k2 1
    go_wp2_with fail
    refine (radd_first ids _ hi0 hi1).mono ?_
    rintro e w1 ⟨v1, rfl, ho1, hb1⟩
    have hz1 := hb1.size
    have hk2 := block_below HN.out.k2 hb1 hzr
    have hrow := owns_keep HN.out.row hb1 (Nat.le_refl _)
    have hbw := HN.out.bel.trans (hb1.mono HN.out.bel.size)
    obtain ⟨ao1, cap1, rfl, _, _⟩ := owns_shape ho1
    clear e0 e1 e2 e3 e1f
    obtain ⟨e0, e1, e2, e3, _⟩ := four_cells hk2
    have e1f := four_free hk2 1
    have hk1 := block_below HN.out.k1 hb1 (by omega)
    obtain ⟨d0, d1, d2, d3, _⟩ := four_cells hk1
    have f0 := four_free hk1 0
    have f1 := four_free hk1 1
    have f2 := four_free hk1 2
    have f3 := four_free hk1 3
    have HRW := Lib.hid hrow
    have HO1 := Lib.hid ho1
    have hq : w.heap.size < w.heap.size + 2 := by omega
    have hq2 : w.heap.size + 1 < w.heap.size + 2 := by omega
    have hq3 : w.heap.size < wc.heap.size := by omega
    have hq4 : w.heap.size + 1 < wc.heap.size := by omega
    clear hk1 hk2 hrow ho1 hb1
    go_wp2
    refine bodyPost_ret (v := .tuple #[.agg #[.slice aov acc.length capv, .slice ao1 (addS [] (0, ids)).length cap1, .slice none 0 0, .slice none 0 0], .int .i64 0]) (by simp [results, Try.results13, go_sem, *]) rfl (show RetNew _ _ _ _ from ?_)
    refine ⟨⟨⟨aov, acc.length, capv⟩, ⟨ao1, (addS [] (0, ids)).length, cap1⟩, ⟨none, 0, 0⟩, ⟨none, 0, 0⟩⟩, by rw [HS.out], ?_, ?_⟩
    · rw [HS.out]
      exact ⟨sl_of_owns (owns_put (owns_put (owns_put (owns_put (owns_put HRW.out _ hq2 _) _ hq _) _ hq _) _ hq _) _ hq _), sl_of_owns (owns_put (owns_put (owns_put (owns_put (owns_put HO1.out _ hq4 _) _ hq3 _) _ hq3 _) _ hq3 _) _ hq3 _), ⟨[], SlT.nil _ _ _, trivial⟩, Sl.nil _ _⟩
    · exact ((((hbw.setCell (by simp) _).setCell (Nat.le_refl _) _).setCell (Nat.le_refl _) _).setCell (Nat.le_refl _) _).setCell (Nat.le_refl _) _
  · have HS : Hid (newS l ids = (⟨[], [], [], []⟩, 1)) := by show _ = _; unfold newS; rw [if_neg (by omega), HGO.out, if_neg (by simp), if_neg hi]
    have hd : ids < 0 ∨ 1000 < ids := by omega
    obtain ⟨d0, d1, d2, d3, _⟩ := four_cells HN.out.k1
    have f0 := four_free HN.out.k1 0
    have f1 := four_free HN.out.k1 1
    have f2 := four_free HN.out.k1 2
    have f3 := four_free HN.out.k1 3
    have hbw := HN.out.bel
    clear hi
    rcases hd with hd | hd
    all_goals
      go_wp2
      refine bodyPost_ret (v := .tuple #[.agg #[.slice none 0 0, .slice none 0 0, .slice none 0 0, .slice none 0 0], .int .i64 1]) (by simp [results, Try.results13, go_sem, *]) rfl ⟨⟨⟨none, 0, 0⟩, ⟨none, 0, 0⟩, ⟨none, 0, 0⟩, ⟨none, 0, 0⟩⟩, by rw [HS.out], by rw [HS.out]; exact bkM_empty _, ?_⟩
      exact (((hbw.setCell (Nat.le_refl _) _).setCell (Nat.le_refl _) _).setCell (Nat.le_refl _) _).setCell (Nat.le_refl _) _

end Go.Proofs.Ytckonmlcgfbojaa
