/- The walk of the law TimerNext. -/
import Derived.Test.YtgjphckjhkdlnaaTArr
namespace Go.Proofs.Ytgjphckjhkdlnaa
open Go.RowKit

/-- What is known at the head of a round: the object, two arrays. -/
structure NextS (w0 w : World) (T A O : Nat) (v : Value) (M : List Rw) (ws : Nat → Int) (os : Nat → Bool) : Prop where
  st : St w0 w T v M
  aw : ArrF w A 50 20 (fun j => .int .i64 (ws j))
  ao : ArrF w O 51 20 (fun j => .bool (os j))
  nAT : A ≠ T
  nOT : O ≠ T
  nAO : A ≠ O
  gA : w0.heap.size ≤ A
  gO : w0.heap.size ≤ O
  vA : v.ownBlock ≠ some A
  vO : v.ownBlock ≠ some O
  p : NextP M ws os

theorem NextS.mv {w0 w w' : World} {T A O : Nat} {v v' : Value} {M : List Rw} {ws : Nat → Int} {os : Nat → Bool} (h : NextS w0 w T A O v M ws os) (m : Mv T w v w' v') :
    ArrF w' A 50 20 (fun j => .int .i64 (ws j)) ∧ ArrF w' O 51 20 (fun j => .bool (os j)) ∧ v'.ownBlock ≠ some A ∧ v'.ownBlock ≠ some O := by
  have hA := h.aw.lt
  have hO := h.ao.lt
  refine ⟨h.aw.mv m h.nAT h.vA, h.ao.mv m h.nOT h.vO, fun e => ?_, fun e => ?_⟩
  · rcases m.stay _ e with h1 | h1
    · exact h.vA h1
    · omega
  · rcases m.stay _ e with h1 | h1
    · exact h.vO h1
    · omega

theorem NextS.keep {w0 w w' : World} {T A O : Nat} {v : Value} {M : List Rw} {ws : Nat → Int} {os : Nat → Bool} (h : NextS w0 w T A O v M ws os) (hb : Below w.heap.size w w') : NextS w0 w' T A O v M ws os :=
  ⟨h.st.keep hb, h.aw.below hb (Nat.le_refl _), h.ao.below hb (Nat.le_refl _), h.nAT, h.nOT, h.nAO, h.gA, h.gO, h.vA, h.vO, h.p⟩

theorem upd_int (ws : Nat → Int) (k : Nat) (t : Int) : (upd (fun j => Value.int .i64 (ws j)) k (.int .i64 t)) = fun j => .int .i64 (upd ws k t j) := by
  funext j; unfold upd; split <;> rfl
theorem upd_bool (os : Nat → Bool) (k : Nat) (t : Bool) : (upd (fun j => Value.bool (os j)) k (.bool t)) = fun j => .bool (upd os k t j) := by
  funext j; unfold upd; split <;> rfl

/-- One set: the object, both arrays. -/
theorem NextS.set {w0 w w' : World} {T A O : Nat} {v v' : Value} {M : List Rw} {ws : Nat → Int} {os : Nat → Bool} (h : NextS w0 w T A O v M ws os) (k : Nat) (hk : k < 20) (t : Int) (h0 : 0 ≤ t) (h1 : t < 100) (m : Mv T w v w' v') (s : St w0 w' T v' (setW M k t).1) :
    NextS w0 ((w'.setCell ⟨A, k, none⟩ (.int .i64 t)).setCell ⟨O, k, none⟩ (.bool true)) T A O v' (setW M k t).1 (upd ws k t) (upd os k true) := by
  obtain ⟨a1, a2, a3, a4⟩ := h.mv m
  have s1 := s.setOther ⟨A, k, none⟩ (.int .i64 t) h.nAT a3 h.gA
  have s2 := s1.setOther ⟨O, k, none⟩ (.bool true) h.nOT a4 h.gO
  have b1 := a1.set k hk (.int .i64 t)
  rw [upd_int] at b1
  have b2 := b1.other ⟨O, k, none⟩ h.nAO (.bool true)
  have c1 := a2.other ⟨A, k, none⟩ h.nAO.symm (.int .i64 t)
  have c2 := c1.set k hk (.bool true)
  rw [upd_bool] at c2
  exact ⟨s2, b2, c2, h.nAT, h.nOT, h.nAO, h.gA, h.gO, a3, a4, (next_set h.p h.st.srt k hk t h0 h1).2⟩
/-- One that is cancelled. -/
theorem NextS.cancel {w0 w w' : World} {T A O : Nat} {v v' : Value} {M : List Rw} {ws : Nat → Int} {os : Nat → Bool} (h : NextS w0 w T A O v M ws os) (k : Nat) (hk : k < 20) (m : Mv T w v w' v') (s : St w0 w' T v' (remW M k)) :
    NextS w0 (w'.setCell ⟨O, k, none⟩ (.bool false)) T A O v' (remW M k) ws (upd os k false) := by
  obtain ⟨a1, a2, a3, a4⟩ := h.mv m
  have s2 := s.setOther ⟨O, k, none⟩ (.bool false) h.nOT a4 h.gO
  have b2 := a1.other ⟨O, k, none⟩ h.nAO (.bool false)
  have c2 := a2.set k hk (.bool false)
  rw [upd_bool] at c2
  exact ⟨s2, b2, c2, h.nAT, h.nOT, h.nAO, h.gA, h.gO, a3, a4, (next_cancel h.p k hk).2⟩

theorem arr_new_int (w : World) : ArrF (w.alloc (.cells #[.int .i64 0, .int .i64 0, .int .i64 0, .int .i64 0, .int .i64 0, .int .i64 0, .int .i64 0, .int .i64 0, .int .i64 0, .int .i64 0, .int .i64 0, .int .i64 0, .int .i64 0, .int .i64 0, .int .i64 0, .int .i64 0, .int .i64 0, .int .i64 0, .int .i64 0, .int .i64 0] 50)) w.heap.size 50 20 (fun _ => .int .i64 0) :=
  ⟨heap_alloc_new w _⟩
theorem arr_new_bool (w : World) : ArrF (w.alloc (.cells #[.bool false, .bool false, .bool false, .bool false, .bool false, .bool false, .bool false, .bool false, .bool false, .bool false, .bool false, .bool false, .bool false, .bool false, .bool false, .bool false, .bool false, .bool false, .bool false, .bool false] 51)) w.heap.size 51 20 (fun _ => .bool false) :=
  ⟨heap_alloc_new w _⟩

theorem count_le (os : Nat → Bool) (k : Nat) : countS os k ≤ k := by
  induction k with
  | zero => exact Nat.le_refl _
  | succ k ih => rw [countS]; split <;> omega

set_option maxRecDepth 100000 in
set_option maxHeartbeats 8000000 in
theorem next_walk (u0 u1 u2 : Value) (ids at_ cuts : List Int) (w : World) (h0 : SlI w u0 ids) (h1 : SlI w u1 at_) (h2 : SlI w u2 cuts) :
    Calls Try.prog 9 #[u0, u1, u2] w fun e w' => e = .returned (.bool true) ∧ Below w.heap.size w w' := by
  obtain ⟨ao0, cap0, rfl, hcap0, hm0⟩ := Sl.shape h0
  obtain ⟨ao1, cap1, rfl, hcap1, hm1⟩ := Sl.shape h1
  obtain ⟨ao2, cap2, rfl, hcap2, hm2⟩ := Sl.shape h2
  go_enter Try.func9, Try.ntmps9
  go_wp2_with fail
  refine (known_any _).mono ?_
  rintro e w0 ⟨rfl, hb0⟩
  go_wp2_with fail
  refine (new_st w w0 hb0).mono ?_
  rintro e w1 ⟨rfl, hs1, _⟩
  have hT := hs1.lt
  have hz1 := hs1.bel.size
  generalize w0.heap.size = T at *
  go_upto_block 0 with fail
  go_cut [] (fun wx => Below w.heap.size w wx)
  case first =>
    go_wp2
    go_loopw [10] (fun vk wr => ∃ (k : Nat) (v : Value) (M : List Rw) (ws : Nat → Int) (os : Nat → Bool), k ≤ 60 ∧ vk = .int .i64 k ∧ NextS w wr T w1.heap.size (w1.heap.size + 1) v M ws os) (fun vk _ => 60 - (intOf vk).toNat)
    case atStart =>
      have hA := arr_new_int w1
      have hbA : Below w1.heap.size w1 (w1.alloc (.cells #[.int .i64 0, .int .i64 0, .int .i64 0, .int .i64 0, .int .i64 0, .int .i64 0, .int .i64 0, .int .i64 0, .int .i64 0, .int .i64 0, .int .i64 0, .int .i64 0, .int .i64 0, .int .i64 0, .int .i64 0, .int .i64 0, .int .i64 0, .int .i64 0, .int .i64 0, .int .i64 0] 50)) := (Below.refl _ _).alloc (Nat.le_refl _) _
      have hO := arr_new_bool (w1.alloc (.cells #[.int .i64 0, .int .i64 0, .int .i64 0, .int .i64 0, .int .i64 0, .int .i64 0, .int .i64 0, .int .i64 0, .int .i64 0, .int .i64 0, .int .i64 0, .int .i64 0, .int .i64 0, .int .i64 0, .int .i64 0, .int .i64 0, .int .i64 0, .int .i64 0, .int .i64 0, .int .i64 0] 50))
      simp only [World.size_alloc] at hO
      exact ⟨0, _, [], fun _ => 0, fun _ => false, Nat.zero_le _, rfl, ⟨(hs1.keep hbA).keep ((Below.refl _ _).alloc (Nat.le_refl _) _), hA.below ((Below.refl _ _).alloc (Nat.le_refl _) _) (Nat.le_refl _), hO, by omega, by omega, by omega, hz1, by omega, (fun e => by cases e), (fun e => by cases e), next_start _⟩⟩
    case round =>
      clear hs1
      obtain ⟨k, v, M, ws, os, hk, rfl, hN⟩ := hrel
      by_cases hgo : k < ids.length ∧ k < at_.length ∧ k < 60
      · obtain ⟨hl0, hl1, h60⟩ := hgo
        obtain ⟨b, off, rfl, hbl, hc⟩ := h0.cell hN.st.bel (Nat.le_refl _) k hl0
        obtain ⟨b', off', rfl, hbl', hc'⟩ := h1.cell hN.st.bel (Nat.le_refl _) k hl1
        obtain ⟨x, hx⟩ : ∃ x, ids[k] = x := ⟨_, rfl⟩
        obtain ⟨y, hy⟩ : ∃ y, at_[k] = y := ⟨_, rfl⟩
        rw [hx] at hc
        rw [hy] at hc'
        have HY := Lib.hid hy
        clear hx hy
        have q1 := Int.emod_nonneg x (show (20 : Int) ≠ 0 by omega)
        have q2 := Int.emod_lt_of_pos x (show (0 : Int) < 20 by omega)
        have q3 := Int.emod_nonneg y (show (100 : Int) ≠ 0 by omega)
        have q4 := Int.emod_lt_of_pos y (show (0 : Int) < 100 by omega)
        obtain ⟨kk, hkk⟩ : ∃ kk : Nat, x % 20 = kk := ⟨(x % 20).toNat, by omega⟩
        have hk20 : kk < 20 := by omega
        have HS0 := Lib.hid (set_st hN.st kk (y % 100))
        rw [(next_set hN.p hN.st.srt kk hk20 (y % 100) q3 q4).1] at HS0
        have HWX := Lib.hid (within_any x 20 wr (by omega) (by omega))
        rw [hkk] at HWX
        have i1 : (kk : Int) < 20 := by omega
        have i0 : (0 : Int) ≤ kk := by omega
        clear hkk q1 q2
        go_wp2_with fail
        refine HWX.out.mono ?_
        rintro e w4 ⟨rfl, rfl⟩
        go_wp2_with fail
        refine (within_any y 100 _ (by omega) (by omega)).mono ?_
        rintro e w4 ⟨rfl, rfl⟩
        go_wp2_with fail
        refine HS0.out.mono ?_
        rintro e w4 ⟨rfl, v4, hs4, hm4⟩
        obtain ⟨a1, a2, a3, a4⟩ := hN.mv hm4
        obtain ⟨ca, fa⟩ := a1.cell kk hk20
        obtain ⟨co, fo⟩ := a2.cell kk hk20
        have HNS := Lib.hid (hN.set kk hk20 (y % 100) q3 q4 hm4 hs4)
        obtain ⟨b3, off3, hbe', _, hc''⟩ := h1.cell hs4.bel (Nat.le_refl _) k hl1
        injection hbe' with hbe'
        injection hbe' with e1 e2 _
        subst e1 e2
        rw [HY.out] at hc''
        have hAO : ¬ w1.heap.size + 1 = w1.heap.size := by omega
        have hOA : ¬ w1.heap.size = w1.heap.size + 1 := by omega
        clear hc hc' a1 a2 a3 a4 hs4 hm4 hN HS0 HWX
        go_wp2_with fail
        refine (within_any y 100 _ (by omega) (by omega)).mono ?_
        rintro e w5 ⟨rfl, rfl⟩
        generalize y % 100 = t at *
        go_upto_region 13 with fail
        generalize (setW M kk t).1 = M1 at *
        generalize upd ws kk t = ws1 at *
        generalize upd os kk true = os1 at *
        have hN1 := HNS.out
        generalize ((w4.setCell ⟨w1.heap.size, kk, none⟩ (.int .i64 t)).setCell ⟨w1.heap.size + 1, kk, none⟩ (.bool true)) = w5 at *
        clear HNS ca fa co fo hc'' i0 i1 q3 q4 hk20
        go_upto_if 63 with fail
        go_cut [] (fun wx => ∃ (v : Value) (M : List Rw) (ws : Nat → Int) (os : Nat → Bool), NextS w wx T w1.heap.size (w1.heap.size + 1) v M ws os)
        case first =>
          rcases Nat.lt_or_ge k cuts.length with hlt2 | hge2
          · obtain ⟨b2, off2, rfl, hbl2, hc2⟩ := h2.cell hN1.st.bel (Nat.le_refl _) k hlt2
            generalize cuts[k] = z at *
            have q1 := Int.emod_nonneg z (show (20 : Int) ≠ 0 by omega)
            have q2 := Int.emod_lt_of_pos z (show (0 : Int) < 20 by omega)
            obtain ⟨cc, hcc⟩ : ∃ cc : Nat, z % 20 = cc := ⟨(z % 20).toNat, by omega⟩
            have hc20 : cc < 20 := by omega
            have HWX := Lib.hid (within_any z 20 w5 (by omega) (by omega))
            rw [hcc] at HWX
            have i1 : (cc : Int) < 20 := by omega
            have i0 : (0 : Int) ≤ cc := by omega
            clear hcc q1 q2
            obtain ⟨co, fo⟩ := hN1.ao.cell cc hc20
            have hcan := (next_cancel hN1.p cc hc20).1
            have HC := Lib.hid (cancel_st (hN1.st.keep (Below.refl w5.heap.size w5).drew) cc)
            rw [hcan] at HC
            have HKA : Hid (∀ w7 v7, Mv T w5.drew v4 w7 v7 → w7.cell? ⟨w1.heap.size + 1, cc, none⟩ = some (.bool (os1 cc))) := fun w7 v7 hm => ((hN1.keep (Below.refl w5.heap.size w5).drew).mv hm).2.1.cell cc hc20 |>.1
            have HOS := Lib.hid (rfl : os1 cc = os1 cc)
            clear hcan
            go_upto_region 15 with (refine HWX.out.mono ?_; rintro e w6 ⟨rfl, rfl⟩)
            go_cut [75] (fun v75 wx => v75 = .bool false ∧ ∃ v', St w wx T v' (remW M1 cc) ∧ Mv T w5 v4 wx v')
            case first =>
              have co9 : w5.drew.cell? ⟨w1.heap.size + 1, cc, none⟩ = some (.bool (os1 cc)) := co
              generalize os1 cc = bo at *
              first
                | (go_region_held3 (fun w' => w'.cell? ⟨w1.heap.size + 1, cc, none⟩ = some (.bool bo)) (first | assumption)
                    (first
                      | (go_at_call 20; (with_reducible refine HC.out.mono ?_); rintro e w7 ⟨rfl, v7, hs7, hm7⟩; have k7 := HKA.out w7 v7 hm7)))
                | fail
              all_goals
                go_wp2
                go_meet
                exact ⟨by simp, v7, hs7, (Mv.of_below (Below.refl w5.heap.size w5).drew).trans hm7⟩
            case rest =>
            obtain ⟨rfl, v7, hs7, hm7⟩ := hcut
            obtain ⟨a1, a2, a3, a4⟩ := hN1.mv hm7
            obtain ⟨ca2, fa2⟩ := a2.cell cc hc20
            have HN2 := Lib.hid (hN1.cancel cc hc20 hm7 hs7)
            clear a1 a2 a3 a4 HC HKA HOS co fo hs7 hm7 hN1 HWX
            go_wp2
            go_meet
            exact ⟨v7, _, _, _, HN2.out⟩
          · have d1 : decide (k < cuts.length) = false := by simp; omega
            go_wp2
            go_meet
            exact ⟨v4, _, _, _, hN1⟩
        case rest =>
        clear hN1
        obtain ⟨v6, M6, ws6, os6, hN6⟩ := hcut
        have HCNT := Lib.hid (next_count hN6.p hN6.st.srt)
        have HLST := Lib.hid (next_least hN6.p hN6.st.srt)
        have hml := hN6.st.len
        have HN := Lib.hid (next_st hN6.st)
        have HLEN := Lib.hid (len_st hN6.st)
        have HNN := Lib.hid hN6
        clear hN6
        go_wp2
        go_loop [13, 14, 15] (fun vl vn vj => ∃ j : Nat, j ≤ 20 ∧ vj = .int .i64 j ∧ vl = .int .i64 (leastS ws6 os6 j) ∧ vn = .int .i64 (countS os6 j)) (fun _ _ vj => 20 - (intOf vj).toNat)
        case atStart => exact ⟨0, Nat.zero_le _, rfl, rfl, rfl⟩
        case round =>
          obtain ⟨j, hj, rfl, rfl, rfl⟩ := hrel
          rcases Nat.lt_or_ge j 20 with hlt | hge
          · obtain ⟨co, fo⟩ := HNN.out.ao.cell j hlt
            obtain ⟨ca, fa⟩ := HNN.out.aw.cell j hlt
            have hcb := count_le os6 j
            have HL1 : Hid (leastS ws6 os6 (j + 1) = if os6 j then (if ws6 j < leastS ws6 os6 j then ws6 j else leastS ws6 os6 j) else leastS ws6 os6 j) := rfl
            have HC1 : Hid (countS os6 (j + 1) = if os6 j then countS os6 j + 1 else countS os6 j) := rfl
            have i1 : (j : Int) < 20 := by omega
            generalize leastS ws6 os6 j = lj at *
            generalize countS os6 j = cj at *
            generalize ws6 j = wj at *
            generalize os6 j = oj at *
            cases oj with
            | false =>
              have L1 : Hid (leastS ws6 os6 (j + 1) = lj) := HL1.out
              have C1 : Hid (countS os6 (j + 1) = cj) := HC1.out
              clear HL1 HC1
              go_wp2
              go_round
              case rel => exact ⟨j + 1, by omega, by go_num, by rw [L1.out], by rw [C1.out]⟩
              case measure => simp [intOf]; omega
            | true =>
              have C1 : Hid (countS os6 (j + 1) = cj + 1) := HC1.out
              by_cases hw : wj < lj
              · have L1 : Hid (leastS ws6 os6 (j + 1) = wj) := by show _ = _; rw [HL1.out]; simp [hw]
                clear HL1 HC1
                go_wp2
                go_round
                case rel => exact ⟨j + 1, by omega, by go_num, by rw [L1.out], by rw [C1.out]; go_num⟩
                case measure => simp [intOf]; omega
              · have L1 : Hid (leastS ws6 os6 (j + 1) = lj) := by show _ = _; rw [HL1.out]; simp [hw]
                have dw : decide (wj < lj) = false := by simpa using hw
                clear HL1 HC1
                go_wp2
                all_goals
                  go_round
                  case rel => exact ⟨j + 1, by omega, by go_num, by rw [L1.out], by rw [C1.out]; go_num⟩
                  case measure => simp [intOf]; omega
          · have hj20 : j = 20 := by omega
            subst hj20
            rw [HCNT.out]
            by_cases hne : M6 = []
            · subst hne
              simp only [ne_eq, not_true_eq_false, decide_false] at HN
              generalize leastS ws6 os6 20 = lz at *
              go_wp2_with fail
              refine HN.out.mono ?_
              rintro e w7 ⟨rfl, rfl⟩
              go_wp2_with fail
              refine HLEN.out.mono ?_
              rintro e w7 ⟨rfl, rfl⟩
              go_wp2
              go_roundw
              case rel => exact ⟨k + 1, v6, [], ws6, os6, by omega, by go_num, HNN.out⟩
              case measure => simp [intOf]; omega
            · rw [HLST.out hne]
              have hpos : 0 < M6.length := List.length_pos_iff.2 hne
              have hpos2 : (0 : Int) < M6.length := by omega
              simp only [ne_eq, hne, not_false_eq_true, decide_true] at HN
              generalize (rw_ M6 0).2 = mz at *
              have HNE := Lib.hid hne
              clear hne
              go_wp2_with fail
              refine HN.out.mono ?_
              rintro e w7 ⟨rfl, rfl⟩
              go_wp2_with fail
              refine HLEN.out.mono ?_
              rintro e w7 ⟨rfl, rfl⟩
              go_wp2
              go_roundw
              case rel => exact ⟨k + 1, v6, M6, ws6, os6, by omega, by go_num, HNN.out⟩
              case measure => simp [intOf]; omega
      · have hb := hN.st.bel
        rcases Nat.lt_or_ge k ids.length with g1 | g1
        · rcases Nat.lt_or_ge k at_.length with g2 | g2
          · have d1 : decide ((k : Int) < 60) = false := by simp; omega
            have d2 : decide (k < 60) = false := by simp; omega
            clear hgo
            go_wp2
            go_meet
            exact hb
          · have d1 : decide (k < at_.length) = false := by simp; omega
            clear hgo
            go_wp2
            go_meet
            exact hb
        · have d1 : decide (k < ids.length) = false := by simp; omega
          clear hgo
          go_wp2
          go_meet
          exact hb
  case rest =>
  go_wp2
  go_ret
  exact ⟨rfl, hcut⟩

end Go.Proofs.Ytgjphckjhkdlnaa
