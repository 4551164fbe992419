/- The walks of container/heap's up and down. -/
import Derived.Test.YtoiegjfpoamcbaaTWkB
namespace Go.Proofs.Ytoiegjfpoamcbaa
open Go.RowKit

/-- What a heap is handed. -/
def ifc (T : Nat) : Value := .iface 58 (.pointer (some ⟨T, 0, none⟩))

theorem m_less (T : Nat) (w : World) : (method 188 58 (.pointer (some ⟨T, 0, none⟩)) "Less").run Try.prog w = .ok (42, .pointer (some ⟨T, 0, none⟩)) w := by kernel_rfl
theorem m_swap (T : Nat) (w : World) : (method 188 58 (.pointer (some ⟨T, 0, none⟩)) "Swap").run Try.prog w = .ok (45, .pointer (some ⟨T, 0, none⟩)) w := by kernel_rfl
theorem m_len (T : Nat) (w : World) : (method 188 58 (.pointer (some ⟨T, 0, none⟩)) "Len").run Try.prog w = .ok (17, .pointer (some ⟨T, 0, none⟩)) w := by kernel_rfl
theorem m_push (T : Nat) (w : World) : (method 188 58 (.pointer (some ⟨T, 0, none⟩)) "Push").run Try.prog w = .ok (44, .pointer (some ⟨T, 0, none⟩)) w := by kernel_rfl
theorem m_pop (T : Nat) (w : World) : (method 188 58 (.pointer (some ⟨T, 0, none⟩)) "Pop").run Try.prog w = .ok (43, .pointer (some ⟨T, 0, none⟩)) w := by kernel_rfl

/-- The rows were moved about, the first n of them. -/
def Moved (L L' : List Rw) (n : Nat) : Prop := L'.Perm L ∧ ∀ m, n ≤ m → rw_ L' m = rw_ L m
theorem Moved.refl (L : List Rw) (n : Nat) : Moved L L n := ⟨List.Perm.refl _, fun _ _ => rfl⟩
theorem Moved.trans {L L1 L2 : List Rw} {n : Nat} (h : Moved L L1 n) (k : Moved L1 L2 n) : Moved L L2 n := ⟨k.1.trans h.1, fun m hm => by rw [k.2 m hm, h.2 m hm]⟩
theorem Moved.len {L L' : List Rw} {n : Nat} (h : Moved L L' n) : L'.length = L.length := h.1.length_eq
theorem moved_swap (L : List Rw) (i j n : Nat) (hi : i < n) (hj : j < n) (hn : n ≤ L.length) : Moved L (swapW L i j) n :=
  ⟨perm_swapW L i j (by omega) (by omega), fun m hm => by rw [rw_swap L i j m (by omega) (by omega), if_neg (by omega), if_neg (by omega)]⟩

theorem par_int (k : Nat) : ((k : Int) - 1).tdiv 2 = ((par k : Nat) : Int) := by
  unfold par
  cases k with
  | zero => rfl
  | succ k =>
    rw [show ((k + 1 : Nat) : Int) - 1 = (k : Int) by omega, Int.tdiv_eq_ediv_of_nonneg (by omega)]
    simp
theorem par_le (k : Nat) : par k ≤ k := by unfold par; omega

set_option maxHeartbeats 2000000 in
theorem up_any (w : World) (B T : Nat) (v : Value) (L : List Rw) (j n : Nat) (h : TmT w B T v L) (hl : L.length < 1000000) (hn : n ≤ L.length) (hj : j < n) (hu : HpUp L n j) :
    Calls Try.prog 24 #[ifc T, .int .i64 j] w fun e w' => e = .returned (.tuple #[]) ∧ ∃ L', TmT w' B T v L' ∧ Mv T w v w' v ∧ Moved L L' n ∧ Hp L' n := by
  unfold ifc
  go_enter Try.func24, Try.ntmps24
  go_wp2
  go_loopw [1] (fun vj wr => ∃ (k : Nat) (L' : List Rw), k < n ∧ vj = .int .i64 k ∧ TmT wr B T v L' ∧ Mv T w v wr v ∧ Moved L L' n ∧ HpUp L' n k) (fun vj _ => (intOf vj).toNat)
  case atStart => exact ⟨j, L, hj, rfl, h, Mv.refl _ _ _, Moved.refl _ _, hu⟩
  case round =>
    clear h hu
    obtain ⟨k, L', hk, rfl, ht, hm, hv, hu⟩ := hrel
    have hlen := hv.len
    have hq : ((k : Int) - 1).tdiv 2 = ((par k : Nat) : Int) := par_int k
    have q : IntKind.i64.wrap (((k : Int) - 1).tdiv 2) = ((par k : Nat) : Int) := by rw [hq]; exact IntWalk.i64_in _ (by have := par_le k; omega)
    clear hq
    by_cases h0 : k = 0
    · subst h0
      go_wp2
      go_end0
      exact ⟨rfl, L', ht, hm, hv, up_stop hu (.inl rfl)⟩
    · have hpk := par_lt (Nat.pos_of_ne_zero h0)
      have hne : (((par k : Nat) : Int) == (k : Int)) = false := by rw [beq_eq_false_iff_ne]; omega
      have ml := m_less T
      have msw := m_swap T
      have HL := Lib.hid (less_any wr B T v L' k (par k) ht (by omega) (by omega))
      by_cases hlt : ltW (rw_ L' k) (rw_ L' (par k))
      · have d : decide (ltW (rw_ L' k) (rw_ L' (par k))) = true := by simpa using hlt
        rw [d] at HL
        have HU := Lib.hid (up_step (by omega) hk (Nat.pos_of_ne_zero h0) hu hlt)
        clear d hlt hu
        go_wp2_with fail
        refine HL.out.mono ?_
        rintro e w1 ⟨rfl, hb1⟩
        have ht1 := ht.keep hb1
        have hm1 := hm.trans (Mv.of_below hb1)
        clear HL hb1
        go_wp2_with fail
        refine (swap_any w1 B T v L' (par k) k ht1 (by omega) (by omega)).mono ?_
        rintro e w2 ⟨rfl, ht2, hm2⟩
        go_wp2
        go_roundw
        case rel => exact ⟨par k, _, by omega, rfl, ht2, hm1.trans hm2, hv.trans (moved_swap L' (par k) k n (by omega) (by omega) (by omega)), HU.out⟩
        case measure => simp [intOf]; omega
      · have d : decide (ltW (rw_ L' k) (rw_ L' (par k))) = false := by simpa using hlt
        rw [d] at HL
        have HU := Lib.hid (up_stop hu (.inr (not_ltW.1 hlt)))
        clear d hlt hu
        go_wp2_with fail
        refine HL.out.mono ?_
        rintro e w1 ⟨rfl, hb1⟩
        have ht1 := ht.keep hb1
        have hm1 := hm.trans (Mv.of_below hb1)
        clear HL hb1
        go_wp2
        go_end0
        exact ⟨rfl, L', ht1, hm1, hv, HU.out⟩

theorem dn_done {L L' : List Rw} {n i0 i : Nat} (h : HpDn L' n i0 i) (hm : ∀ k, 0 < k → k < n → par k = i → leW (rw_ L' i) (rw_ L' k)) (he : i = i0 → L' = L) (h0 : i0 ≤ i) (b : Bool) (hb : b = decide (i0 < i)) :
    (b = true → Hp L' n) ∧ (b = false → L' = L ∧ HpUp L n i0) := by
  subst hb
  constructor
  · intro hh
    exact dn_stop h (by simp at hh; omega) hm
  · intro hh
    have : i = i0 := by simp at hh; omega
    subst this
    have hL := he rfl
    subst hL
    exact ⟨rfl, dn_none h hm⟩

def DnPost (w : World) (B T : Nat) (v : Value) (L : List Rw) (n i0 : Nat) (e : Ending) (w' : World) : Prop :=
  ∃ (L' : List Rw) (b : Bool), e = .returned (.bool b) ∧ TmT w' B T v L' ∧ Mv T w v w' v ∧ Moved L L' n ∧ (b = true → Hp L' n) ∧ (b = false → L' = L ∧ HpUp L n i0)

set_option maxHeartbeats 4000000 in
theorem down_any (w : World) (B T : Nat) (v : Value) (L : List Rw) (i0 n : Nat) (h : TmT w B T v L) (hl : L.length < 1000000) (hn : n ≤ L.length) (hi0 : i0 < 1000000) (hd : HpDn L n i0 i0) :
    Calls Try.prog 25 #[ifc T, .int .i64 i0, .int .i64 n] w (DnPost w B T v L n i0) := by
  unfold ifc
  go_enter Try.func25, Try.ntmps25
  go_wp2
  go_loopw [7] (fun vi wr => ∃ (i : Nat) (L' : List Rw), i0 ≤ i ∧ i < 1000000 ∧ vi = .int .i64 i ∧ TmT wr B T v L' ∧ Mv T w v wr v ∧ Moved L L' n ∧ HpDn L' n i0 i ∧ (i = i0 → L' = L)) (fun vi _ => 1000000 - (intOf vi).toNat)
  case atStart => exact ⟨i0, L, Nat.le_refl _, hi0, rfl, h, Mv.refl _ _ _, Moved.refl _ _, hd, fun _ => rfl⟩
  case round =>
    clear h hd
    obtain ⟨i, L', hi, him, rfl, ht, hm, hv, hu, he⟩ := hrel
    have hlen := hv.len
    have HE := Lib.hid he
    have HU := Lib.hid hu
    clear he hu
    have ml := m_less T
    have msw := m_swap T
    rcases Nat.lt_or_ge (2 * i + 1) n with hlt | hge
    · have hp1 : par (2 * i + 1) = i := by unfold par; omega
      have hp2 : par (2 * i + 2) = i := by unfold par; omega
      have d1 : decide ((n : Int) ≤ 2 * (i : Int) + 1) = false := by simp; omega
      have d2 : decide (2 * (i : Int) + 1 < 0) = false := by simp; omega
      have E1 : Hid (2 * (i : Int) + 1 = ((2 * i + 1 : Nat) : Int)) := by show _ = _; omega
      have E2 : Hid (2 * (i : Int) + 1 + 1 = ((2 * i + 2 : Nat) : Int)) := by show _ = _; omega
      rcases Nat.lt_or_ge (2 * i + 2) n with hlt2 | hge2
      · have HL := Lib.hid (less_any wr B T v L' (2 * i + 2) (2 * i + 1) ht (by omega) (by omega))
        rw [← E1.out, ← E2.out] at HL
        by_cases hx : ltW (rw_ L' (2 * i + 2)) (rw_ L' (2 * i + 1))
        · have d : decide (ltW (rw_ L' (2 * i + 2)) (rw_ L' (2 * i + 1))) = true := by simpa using hx
          rw [d] at HL
          have HMIN : Hid (∀ k, 0 < k → k < n → par k = i → leW (rw_ L' (2 * i + 2)) (rw_ L' k)) := fun k k0 kn kp => by
            rcases (kid k0).1 kp with rfl | rfl
            · exact ltW_le hx
            · exact leW_refl _
          clear d hx
          go_wp2_with fail
          refine HL.out.mono ?_
          rintro e w1 ⟨rfl, hb1⟩
          have ht9 := (ht.keep hb1)
          have hm9 := (hm.trans (Mv.of_below hb1))
          have hji : i < 2 * i + 2 := by omega
          have HL2 := Lib.hid (less_any _ B T v L' (2 * i + 2) i ht9 (by omega) (by omega))
          rw [← E2.out] at HL2
          by_cases hy : ltW (rw_ L' (2 * i + 2)) (rw_ L' i)
          · have d : decide (ltW (rw_ L' (2 * i + 2)) (rw_ L' i)) = true := by simpa using hy
            rw [d] at HL2
            have HY := Lib.hid hy
            have HS := Lib.hid (dn_step (by omega) (by omega) (hp2) (by omega) hi HU.out hy HMIN.out)
            clear d hy
            go_wp2_with fail
            refine HL2.out.mono ?_
            rintro e w3 ⟨rfl, hb3⟩
            have ht3 := ht9.keep hb3
            have hm3 := hm9.trans (Mv.of_below hb3)
            have HSW := Lib.hid (swap_any w3 B T v L' i (2 * i + 2) ht3 (by omega) (by omega))
            rw [← E2.out] at HSW
            clear HL2 hb3 ht9 hm9
            go_wp2_with fail
            refine HSW.out.mono ?_
            rintro e w4 ⟨rfl, ht4, hm4⟩
            go_wp2
            go_roundw
            case rel => exact ⟨2 * i + 2, _, by omega, by omega, by rw [E2.out], ht4, hm3.trans hm4, hv.trans (moved_swap L' i (2 * i + 2) n (by omega) (by omega) (by omega)), HS.out, fun hh => by omega⟩
            case measure => simp [intOf]; omega
          · have d : decide (ltW (rw_ L' (2 * i + 2)) (rw_ L' i)) = false := by simpa using hy
            rw [d] at HL2
            have HY := Lib.hid hy
            clear d hy
            go_wp2_with fail
            refine HL2.out.mono ?_
            rintro e w3 ⟨rfl, hb3⟩
            have ht3 := ht9.keep hb3
            have hm3 := hm9.trans (Mv.of_below hb3)
            clear HL2 hb3
            go_wp2
            go_ret
            have hdd := dn_done HU.out (fun k k0 kn kp => leW_trans (not_ltW.1 HY.out) (HMIN.out k k0 kn kp)) HE.out hi _ rfl
            exact ⟨L', decide (i0 < i), by simp, ht3, hm3, hv, hdd⟩
        · have d : decide (ltW (rw_ L' (2 * i + 2)) (rw_ L' (2 * i + 1))) = false := by simpa using hx
          rw [d] at HL
          have HMIN : Hid (∀ k, 0 < k → k < n → par k = i → leW (rw_ L' (2 * i + 1)) (rw_ L' k)) := fun k k0 kn kp => by
            rcases (kid k0).1 kp with rfl | rfl
            · exact leW_refl _
            · exact not_ltW.1 hx
          clear d hx
          go_wp2_with fail
          refine HL.out.mono ?_
          rintro e w1 ⟨rfl, hb1⟩
          have ht9 := (ht.keep hb1)
          have hm9 := (hm.trans (Mv.of_below hb1))
          have hji : i < 2 * i + 1 := by omega
          have HL2 := Lib.hid (less_any _ B T v L' (2 * i + 1) i ht9 (by omega) (by omega))
          rw [← E1.out] at HL2
          by_cases hy : ltW (rw_ L' (2 * i + 1)) (rw_ L' i)
          · have d : decide (ltW (rw_ L' (2 * i + 1)) (rw_ L' i)) = true := by simpa using hy
            rw [d] at HL2
            have HY := Lib.hid hy
            have HS := Lib.hid (dn_step (by omega) (by omega) (hp1) (by omega) hi HU.out hy HMIN.out)
            clear d hy
            go_wp2_with fail
            refine HL2.out.mono ?_
            rintro e w3 ⟨rfl, hb3⟩
            have ht3 := ht9.keep hb3
            have hm3 := hm9.trans (Mv.of_below hb3)
            have HSW := Lib.hid (swap_any w3 B T v L' i (2 * i + 1) ht3 (by omega) (by omega))
            rw [← E1.out] at HSW
            clear HL2 hb3 ht9 hm9
            go_wp2_with fail
            refine HSW.out.mono ?_
            rintro e w4 ⟨rfl, ht4, hm4⟩
            go_wp2
            go_roundw
            case rel => exact ⟨2 * i + 1, _, by omega, by omega, by rw [E1.out], ht4, hm3.trans hm4, hv.trans (moved_swap L' i (2 * i + 1) n (by omega) (by omega) (by omega)), HS.out, fun hh => by omega⟩
            case measure => simp [intOf]; omega
          · have d : decide (ltW (rw_ L' (2 * i + 1)) (rw_ L' i)) = false := by simpa using hy
            rw [d] at HL2
            have HY := Lib.hid hy
            clear d hy
            go_wp2_with fail
            refine HL2.out.mono ?_
            rintro e w3 ⟨rfl, hb3⟩
            have ht3 := ht9.keep hb3
            have hm3 := hm9.trans (Mv.of_below hb3)
            clear HL2 hb3
            go_wp2
            go_ret
            have hdd := dn_done HU.out (fun k k0 kn kp => leW_trans (not_ltW.1 HY.out) (HMIN.out k k0 kn kp)) HE.out hi _ rfl
            exact ⟨L', decide (i0 < i), by simp, ht3, hm3, hv, hdd⟩
      · have d3 : decide (2 * (i : Int) + 1 + 1 < (n : Int)) = false := by simp; omega
        have HMIN : Hid (∀ k, 0 < k → k < n → par k = i → leW (rw_ L' (2 * i + 1)) (rw_ L' k)) := fun k k0 kn kp => by
          rcases (kid k0).1 kp with rfl | rfl
          · exact leW_refl _
          · omega
        have ht9 := (ht)
        have hm9 := (hm)
        have hji : i < 2 * i + 1 := by omega
        have HL2 := Lib.hid (less_any _ B T v L' (2 * i + 1) i ht9 (by omega) (by omega))
        rw [← E1.out] at HL2
        by_cases hy : ltW (rw_ L' (2 * i + 1)) (rw_ L' i)
        · have d : decide (ltW (rw_ L' (2 * i + 1)) (rw_ L' i)) = true := by simpa using hy
          rw [d] at HL2
          have HY := Lib.hid hy
          have HS := Lib.hid (dn_step (by omega) (by omega) (hp1) (by omega) hi HU.out hy HMIN.out)
          clear d hy
          go_wp2_with fail
          refine HL2.out.mono ?_
          rintro e w3 ⟨rfl, hb3⟩
          have ht3 := ht9.keep hb3
          have hm3 := hm9.trans (Mv.of_below hb3)
          have HSW := Lib.hid (swap_any w3 B T v L' i (2 * i + 1) ht3 (by omega) (by omega))
          rw [← E1.out] at HSW
          clear HL2 hb3 ht9 hm9
          go_wp2_with fail
          refine HSW.out.mono ?_
          rintro e w4 ⟨rfl, ht4, hm4⟩
          go_wp2
          go_roundw
          case rel => exact ⟨2 * i + 1, _, by omega, by omega, by rw [E1.out], ht4, hm3.trans hm4, hv.trans (moved_swap L' i (2 * i + 1) n (by omega) (by omega) (by omega)), HS.out, fun hh => by omega⟩
          case measure => simp [intOf]; omega
        · have d : decide (ltW (rw_ L' (2 * i + 1)) (rw_ L' i)) = false := by simpa using hy
          rw [d] at HL2
          have HY := Lib.hid hy
          clear d hy
          go_wp2_with fail
          refine HL2.out.mono ?_
          rintro e w3 ⟨rfl, hb3⟩
          have ht3 := ht9.keep hb3
          have hm3 := hm9.trans (Mv.of_below hb3)
          clear HL2 hb3
          go_wp2
          go_ret
          have hdd := dn_done HU.out (fun k k0 kn kp => leW_trans (not_ltW.1 HY.out) (HMIN.out k k0 kn kp)) HE.out hi _ rfl
          exact ⟨L', decide (i0 < i), by simp, ht3, hm3, hv, hdd⟩
    · have d1 : decide ((n : Int) ≤ 2 * (i : Int) + 1) = true := by simp; omega
      go_wp2
      go_ret
      have hdd := dn_done HU.out (fun k k0 kn kp => by rcases (kid k0).1 kp with rfl | rfl <;> omega) HE.out hi _ rfl
      exact ⟨L', decide (i0 < i), by simp, ht, hm, hv, hdd⟩

end Go.Proofs.Ytoiegjfpoamcbaa
