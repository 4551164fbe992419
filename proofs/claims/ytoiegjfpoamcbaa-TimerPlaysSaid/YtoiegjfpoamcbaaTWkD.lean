/- The walks of container/heap's Push, Pop, Remove, Fix. -/
import Derived.Test.YtoiegjfpoamcbaaTWkC
namespace Go.Proofs.Ytoiegjfpoamcbaa
open Go.RowKit

theorem split_last {L : List Rw} {n : Nat} (h : L.length = n + 1) : ∃ L3 x, L = L3 ++ [x] ∧ L3.length = n ∧ x = rw_ L n ∧ ∀ k, k < n → rw_ L3 k = rw_ L k := by
  have hne : L ≠ [] := by intro e; rw [e] at h; simp at h
  refine ⟨L.dropLast, L.getLast hne, (List.dropLast_concat_getLast hne).symm, by simp [h], ?_, fun k hk => ?_⟩
  · rw [rw_eq L n (by omega), List.getLast_eq_getElem]
    congr 1; omega
  · rw [rw_eq _ k (by simp; omega), rw_eq L k (by omega), List.getElem_dropLast]
theorem hpDn_zero (L : List Rw) (i : Nat) : HpDn L 0 i i := ⟨fun k _ h => by omega, fun k _ h => by omega⟩
theorem Hp.of_eq {L L' : List Rw} {n : Nat} (h : Hp L n) (he : ∀ k, k < n → rw_ L' k = rw_ L k) : Hp L' n := fun k k0 kn => by
  have := par_lt k0
  rw [he k kn, he _ (by omega)]; exact h k k0 kn

/-- What a heap's function leaves: the rows are, but for their order, M; a heap. -/
def HpPost (w : World) (B T : Nat) (v : Value) (M : List Rw) (w' : World) : Prop := ∃ v' L', TmT w' B T v' L' ∧ Mv T w v w' v' ∧ L'.Perm M ∧ Hp L' L'.length

set_option maxHeartbeats 2000000 in
theorem hpush_any (w : World) (B T : Nat) (v : Value) (L : List Rw) (r : Rw) (h : TmT w B T v L) (hl : L.length < 999999) (hp : Hp L L.length) :
    Calls Try.prog 19 #[ifc T, .iface 52 (.agg #[.int .i64 r.1, .int .i64 r.2])] w fun e w' => e = .returned (.tuple #[]) ∧ HpPost w B T v (r :: L) w' := by
  have m1 := m_push T
  have m2 := m_len T
  have HP := Lib.hid (push_any w B T v L r h (by omega))
  have hlen : (L ++ [r]).length = L.length + 1 := by simp
  unfold ifc
  go_enter Try.func19, Try.ntmps19
  go_wp2_with fail
  refine HP.out.mono ?_
  rintro e w1 ⟨rfl, v1, ht1, hm1⟩
  have HL := Lib.hid (len_any w1 B T v1 (L ++ [r]) ht1)
  rw [hlen] at HL
  have HU := Lib.hid (up_any w1 B T v1 (L ++ [r]) L.length (L.length + 1) ht1 (by omega) (by omega) (by omega) (up_start r hp))
  unfold ifc at HU
  have w9 : IntKind.i64.wrap ((L.length : Int) + 1 - 1) = (L.length : Int) := by rw [show (L.length : Int) + 1 - 1 = L.length by omega]; exact IntWalk.i64_in _ (by omega)
  have w10 : IntKind.i64.wrap (L.length : Int) = (L.length : Int) := IntWalk.i64_in _ (by clear w9; omega)
  clear hlen HP
  go_wp2_with fail
  refine HL.out.mono ?_
  rintro e w2 ⟨rfl, rfl⟩
  go_wp2_with fail
  refine HU.out.mono ?_
  rintro e w3 ⟨rfl, L3, ht3, hm3, hv3, hp3⟩
  go_wp2
  go_end0
  exact ⟨rfl, v1, L3, ht3, hm1.trans hm3, hv3.1.trans (List.perm_append_comm.trans (List.Perm.refl _)), by rw [hv3.len]; simpa using hp3⟩

/-- The last row goes. -/
theorem pop_last {w2 : World} {B T n : Nat} {v : Value} {L2 : List Rw} (h : TmT w2 B T v L2) (hn : L2.length = n + 1) (hs : n < 1000000) (hp : Hp L2 n) :
    Calls Try.prog 43 #[.pointer (some ⟨T, 0, none⟩)] w2 fun e w' => e = .returned (.iface 52 (.agg #[.int .i64 (rw_ L2 n).1, .int .i64 (rw_ L2 n).2])) ∧
      ∃ v' L', TmT w' B T v' L' ∧ Mv T w2 v w' v' ∧ (rw_ L2 n :: L').Perm L2 ∧ Hp L' L'.length := by
  obtain ⟨L3, x, rfl, h3, hx, he⟩ := split_last hn
  rw [← hx]
  refine (pop_any w2 B T v L3 x h (by omega)).mono ?_
  rintro e w' ⟨rfl, v', ht, hm⟩
  exact ⟨rfl, v', L3, ht, hm, (List.perm_append_comm (l₁ := [x]) (l₂ := L3)), by rw [h3]; exact hp.of_eq he⟩

def AnyPost (w : World) (B T : Nat) (v : Value) (r : Rw) (L : List Rw) (e : Ending) (w' : World) : Prop :=
  (∃ y, e = .returned (.iface 52 y)) ∧ ∃ v' L', TmT w' B T v' L' ∧ Mv T w v w' v' ∧ (r :: L').Perm L ∧ Hp L' L'.length

set_option maxHeartbeats 2000000 in
theorem hpop_any (w : World) (B T n : Nat) (v : Value) (L : List Rw) (h : TmT w B T v L) (hn : L.length = n + 1) (hl : n < 999999) (hp : Hp L L.length) :
    Calls Try.prog 23 #[ifc T] w (AnyPost w B T v (rw_ L 0) L) := by
  have m1 := m_pop T
  have m2 := m_len T
  have m3 := m_swap T
  have HL := Lib.hid (len_any w B T v L h)
  rw [hn] at HL
  have HS := Lib.hid (swap_any w B T v L 0 n h (by omega) (by omega))
  have w9 : IntKind.i64.wrap ((n : Int) + 1 - 1) = (n : Int) := by rw [show (n : Int) + 1 - 1 = n by omega]; exact IntWalk.i64_in _ (by omega)
  have w10 : IntKind.i64.wrap (n : Int) = (n : Int) := IntWalk.i64_in _ (by clear w9; omega)
  have hd : HpDn (swapW L 0 n) n 0 0 := by
    by_cases h0 : n = 0
    · subst h0; exact hpDn_zero _ _
    · have := rem_start hp (i := 0) (by omega)
      rw [show L.length - 1 = n by omega] at this
      exact this
  have HD := Lib.hid hd
  have HN := Lib.hid hn
  clear hd hn
  unfold ifc
  go_enter Try.func23, Try.ntmps23
  go_wp2_with fail
  refine HL.out.mono ?_
  rintro e w2 ⟨rfl, rfl⟩
  go_wp2_with fail
  refine HS.out.mono ?_
  rintro e w3 ⟨rfl, ht3, hm3⟩
  have HDN := Lib.hid (down_any w3 B T v (swapW L 0 n) 0 n ht3 (by rw [length_swapW, HN.out]; omega) (by rw [length_swapW, HN.out]; omega) (by omega) HD.out)
  unfold ifc at HDN
  go_wp2_with fail
  refine HDN.out.mono ?_
  rintro e w4 ⟨L4, b, rfl, ht4, hm4, hv4, hbt, hbf⟩
  have hp4 : Hp L4 n := by
    cases b with
    | true => exact hbt rfl
    | false =>
      obtain ⟨rfl, hu⟩ := hbf rfl
      exact up_stop hu (.inl rfl)
  have hx : rw_ L4 n = rw_ L 0 := by
    rw [hv4.2 n (Nat.le_refl _), rw_swap L 0 n n (by rw [HN.out]; omega) (by rw [HN.out]; omega), if_pos rfl]
  have HPP := Lib.hid (pop_last ht4 (by rw [hv4.len, length_swapW, HN.out]) (by omega) hp4)
  rw [hx] at HPP
  clear hx hp4 hbt hbf
  go_wp2_with fail
  refine HPP.out.mono ?_
  rintro e w5 ⟨rfl, v5, L5, ht5, hm5, hp5, hh5⟩
  go_wp2
  go_ret
  exact ⟨⟨_, rfl⟩, v5, L5, ht5, (hm3.trans hm4).trans hm5, hp5.trans (hv4.1.trans (perm_swapW L 0 n (by rw [HN.out]; omega) (by rw [HN.out]; omega))), hh5⟩

set_option maxHeartbeats 2000000 in
theorem hfix_any (w : World) (B T i : Nat) (v : Value) (L : List Rw) (h : TmT w B T v L) (hi : i < L.length) (hl : L.length < 999999) (hd : HpDn L L.length i i) :
    Calls Try.prog 21 #[ifc T, .int .i64 i] w fun e w' => e = .returned (.tuple #[]) ∧ HpPost w B T v L w' := by
  have m2 := m_len T
  have HL := Lib.hid (len_any w B T v L h)
  have HDN := Lib.hid (down_any w B T v L i L.length h (by omega) (Nat.le_refl _) (by omega) hd)
  unfold ifc at HDN
  clear hd
  unfold ifc
  go_enter Try.func21, Try.ntmps21
  go_wp2_with fail
  refine HL.out.mono ?_
  rintro e w2 ⟨rfl, rfl⟩
  go_wp2_with fail
  refine HDN.out.mono ?_
  rintro e w4 ⟨L4, b, rfl, ht4, hm4, hv4, hbt, hbf⟩
  cases b with
  | true =>
    have hp4 := hbt rfl
    clear hbt hbf
    go_wp2
    go_end0
    exact ⟨rfl, v, L4, ht4, hm4, hv4.1, by rw [hv4.len]; exact hp4⟩
  | false =>
    obtain ⟨rfl, hu⟩ := hbf rfl
    have HU := Lib.hid (up_any w4 B T v L4 i L4.length ht4 (by omega) (Nat.le_refl _) hi hu)
    unfold ifc at HU
    clear hbt hbf hu
    go_wp2_with fail
    refine HU.out.mono ?_
    rintro e w5 ⟨rfl, L5, ht5, hm5, hv5, hp5⟩
    go_wp2
    go_end0
    exact ⟨rfl, v, L5, ht5, hm4.trans hm5, hv5.1, by rw [hv5.len]; exact hp5⟩

set_option maxHeartbeats 4000000 in
theorem hremove_any (w : World) (B T n i : Nat) (v : Value) (L : List Rw) (h : TmT w B T v L) (hn : L.length = n + 1) (hi : i ≤ n) (hl : n < 999999) (hp : Hp L L.length) :
    Calls Try.prog 22 #[ifc T, .int .i64 i] w (AnyPost w B T v (rw_ L i) L) := by
  have m1 := m_pop T
  have m2 := m_len T
  have m3 := m_swap T
  have HL := Lib.hid (len_any w B T v L h)
  rw [hn] at HL
  have w9 : IntKind.i64.wrap ((n : Int) + 1 - 1) = (n : Int) := by rw [show (n : Int) + 1 - 1 = n by omega]; exact IntWalk.i64_in _ (by omega)
  have w10 : IntKind.i64.wrap (n : Int) = (n : Int) := IntWalk.i64_in _ (by clear w9; omega)
  by_cases hin : i = n
  · subst hin
    have HPP := Lib.hid (pop_last h hn (by omega) (hp.mono (by omega)))
    clear hn
    unfold ifc
    go_enter Try.func22, Try.ntmps22
    go_wp2_with fail
    refine HL.out.mono ?_
    rintro e w2 ⟨rfl, rfl⟩
    go_wp2_with fail
    refine HPP.out.mono ?_
    rintro e w5 ⟨rfl, v5, L5, ht5, hm5, hp5, hh5⟩
    go_wp2
    go_ret
    exact ⟨⟨_, rfl⟩, v5, L5, ht5, hm5, hp5, hh5⟩
  · have hne : ((n : Int) != (i : Int)) = true := by rw [bne_iff_ne]; omega
    have HS := Lib.hid (swap_any w B T v L i n h (by omega) (by omega))
    have HD : Hid (HpDn (swapW L i n) n i i) := by
      have := rem_start hp (i := i) (by omega)
      rw [show L.length - 1 = n by omega] at this
      exact this
    have HN := Lib.hid hn
    clear hn hin
    unfold ifc
    go_enter Try.func22, Try.ntmps22
    go_wp2_with fail
    refine HL.out.mono ?_
    rintro e w2 ⟨rfl, rfl⟩
    go_wp2_with fail
    refine HS.out.mono ?_
    rintro e w3 ⟨rfl, ht3, hm3⟩
    have HDN := Lib.hid (down_any w3 B T v (swapW L i n) i n ht3 (by rw [length_swapW, HN.out]; omega) (by rw [length_swapW, HN.out]; omega) (by omega) HD.out)
    unfold ifc at HDN
    go_wp2_with fail
    refine HDN.out.mono ?_
    rintro e w4 ⟨L4, b, rfl, ht4, hm4, hv4, hbt, hbf⟩
    have hx : rw_ L4 n = rw_ L i := by
      rw [hv4.2 n (Nat.le_refl _), rw_swap L i n n (by rw [HN.out]; omega) (by rw [HN.out]; omega), if_pos rfl]
    have hpe : L4.Perm L := hv4.1.trans (perm_swapW L i n (by rw [HN.out]; omega) (by rw [HN.out]; omega))
    have hlen4 : L4.length = n + 1 := by rw [hv4.len, length_swapW, HN.out]
    have HX := Lib.hid hx
    have HL4 := Lib.hid hlen4
    cases b with
    | true =>
      have HPP := Lib.hid (pop_last ht4 hlen4 (by omega) (hbt rfl))
      rw [hx] at HPP
      clear hx hbt hbf hlen4
      go_wp2_with fail
      refine HPP.out.mono ?_
      rintro e w5 ⟨rfl, v5, L5, ht5, hm5, hp5, hh5⟩
      go_wp2
      go_ret
      exact ⟨⟨_, rfl⟩, v5, L5, ht5, (hm3.trans hm4).trans hm5, hp5.trans hpe, hh5⟩
    | false =>
      obtain ⟨he, hu⟩ := hbf rfl
      rw [← he] at hu
      have hi2 : i < n := by
        rcases Nat.lt_or_ge i n with hh | hh
        · exact hh
        · exfalso; have : n = i := by omega
          subst this; simp at hne
      have HU := Lib.hid (up_any w4 B T v L4 i n ht4 (by omega) (by omega) hi2 hu)
      unfold ifc at HU
      clear hx hbt hbf hlen4 he hu
      go_wp2_with fail
      refine HU.out.mono ?_
      rintro e w6 ⟨rfl, L6, ht6, hm6, hv6, hp6⟩
      have hx6 : rw_ L6 n = rw_ L i := by rw [hv6.2 n (Nat.le_refl _), HX.out]
      have HPP := Lib.hid (pop_last ht6 (by rw [hv6.len, HL4.out]) (by omega) hp6)
      rw [hx6] at HPP
      clear hx6 hp6
      go_wp2_with fail
      refine HPP.out.mono ?_
      rintro e w5 ⟨rfl, v5, L5, ht5, hm5, hp5, hh5⟩
      go_wp2
      go_ret
      exact ⟨⟨_, rfl⟩, v5, L5, ht5, ((hm3.trans hm4).trans hm6).trans hm5, hp5.trans (hv6.1.trans hpe), hh5⟩

end Go.Proofs.Ytoiegjfpoamcbaa
