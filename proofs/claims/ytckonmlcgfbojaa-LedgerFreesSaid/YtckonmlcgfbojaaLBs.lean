/- The walk of slices.BinarySearch at numbers; Spend's closure. -/
import Derived.Test.YtckonmlcgfbojaaLPs
import Derived.Test.YtckonmlcgfbojaaLIx
import Derived.Deep.LoopGhost
import Derived.Lib.SlicesSearch
namespace Go.Proofs.Ytckonmlcgfbojaa
open Go.RowKit

set_option maxHeartbeats 1000000 in
theorem nanC_any (x : Int) (w : World) : Calls Try.prog 100 #[.int .i64 x] w fun e w' => e = .returned (.bool false) ∧ w' = w := by
  go_enter Try.func100, Try.ntmps100
  go_wp2
  go_ret
  exact ⟨by simp, rfl⟩
set_option maxHeartbeats 1000000 in
theorem nanS_any (x : Int) (w : World) : Calls Try.prog 88 #[.int .i64 x] w fun e w' => e = .returned (.bool false) ∧ w' = w := by
  go_enter Try.func88, Try.ntmps88
  go_wp2
  go_ret
  exact ⟨by simp, rfl⟩
set_option maxHeartbeats 1000000 in
theorem less_any (x y : Int) (w : World) : Calls Try.prog 87 #[.int .i64 x, .int .i64 y] w fun e w' => e = .returned (.bool (decide (x < y))) ∧ w' = w := by
  go_enter Try.func87, Try.ntmps87
  go_wp2_with (go_at_call 100; refine (nanC_any _ _).mono ?_; rintro e w' ⟨rfl, rfl⟩)
  go_ret
  exact ⟨rfl, rfl⟩

set_option maxHeartbeats 4000000 in
set_option maxRecDepth 1000000 in
theorem bsearch_any (v : Value) (zs : List Int) (x : Int) (w : World) (h : SlI w v zs) (hl : zs.length < 1000000) (hsort : zs.Pairwise (· ≤ ·)) :
    Calls Try.prog 54 #[v, .int .i64 x] w fun e w' => e = .returned (.tuple #[.int .i64 (zs.countP (· < x) : Nat), .bool (zs.contains x)]) ∧ w' = w := by
  obtain ⟨ao, cap, rfl, hcap, hcm⟩ := Sl.shape h
  have S : Hid (∀ a b, a ≤ b → b < zs.length → zs.getD a 0 ≤ zs.getD b 0) := Lib.hid (Lib.sorted_at zs zs.length (Nat.le_refl _) (by rw [List.take_length]; exact hsort))
  have HC : Hid (∀ j, j < zs.length → ∃ b off, ao = some ⟨b, off, none⟩ ∧ w.cell? ⟨b, off + j, none⟩ = some (.int .i64 (zs.getD j 0))) := Lib.hid (fun j hj => by
    obtain ⟨b, off, h1, _, h3⟩ := SlI.cell h (Below.refl _ w) (Nat.le_refl _) j hj
    exact ⟨b, off, h1, by rw [Lib.getD_lt _ _ hj]; exact h3⟩)
  clear hsort h
  go_enter Try.func54, Try.ntmps54
  go_wp2
  go_loopg [7, 8] zs.length (fun g s7 s8 wr => ∃ lo hi : Nat, s7 = .int .i64 lo ∧ s8 = .int .i64 hi ∧ lo ≤ hi ∧ hi ≤ zs.length ∧ hi - lo ≤ g ∧ wr = w ∧ Hid ((∀ t, t < lo → zs.getD t 0 < x) ∧ (∀ t, hi ≤ t → t < zs.length → x ≤ zs.getD t 0)))
  case atStart => exact ⟨0, zs.length, rfl, rfl, Nat.zero_le _, Nat.le_refl _, by omega, rfl, Lib.hid ⟨fun t ht => absurd ht (Nat.not_lt_zero _), fun t h1 h2 => by omega⟩⟩
  case round =>
    obtain ⟨lo, hi, rfl, rfl, hlh, hin, hg, rfl, I⟩ := hrel
    by_cases hlt : lo < hi
    · obtain ⟨b, off, rfl, cm⟩ := HC.out ((lo + hi) / 2) (by omega)
      generalize hy : zs.getD ((lo + hi) / 2) 0 = y at cm
      have Y := Lib.hid hy
      clear hy
      by_cases hyx : y < x
      · go_wp2_with (go_at_call 87; refine (less_any _ _ _).mono ?_; rintro e w' ⟨rfl, rfl⟩)
        go_roundg (hi - ((lo + hi) / 2 + 1))
        case measure => omega
        case rel =>
          refine ⟨(lo + hi) / 2 + 1, hi, by rw [show ((lo : Int) + (hi : Int)) / 2 + 1 = (((lo + hi) / 2 + 1 : Nat) : Int) by omega], rfl, by omega, hin, Nat.le_refl _, rfl, Lib.hid ⟨fun t ht => ?_, I.out.2⟩⟩
          have := S.out t ((lo + hi) / 2) (by omega) (by omega)
          rw [Y.out] at this
          omega
      · go_wp2_with (go_at_call 87; refine (less_any _ _ _).mono ?_; rintro e w' ⟨rfl, rfl⟩)
        go_roundg ((lo + hi) / 2 - lo)
        case measure => omega
        case rel =>
          refine ⟨lo, (lo + hi) / 2, rfl, by rw [show ((lo : Int) + (hi : Int)) / 2 = (((lo + hi) / 2 : Nat) : Int) by omega], by omega, by omega, Nat.le_refl _, rfl, Lib.hid ⟨I.out.1, fun t ht htn => ?_⟩⟩
          have := S.out ((lo + hi) / 2) t ht htn
          rw [Y.out] at this
          omega
    · have : hi = lo := by omega
      subst this
      obtain ⟨e1, e2⟩ := Lib.search_end zs zs.length hi x (Nat.le_refl _) hin I.out.1 I.out.2 S.out
      rw [List.take_length] at e1 e2
      have E : Hid (zs.countP (· < x) = hi ∧ zs.contains x = decide (hi < zs.length ∧ zs.getD hi 0 = x)) := Lib.hid ⟨e1, e2⟩
      clear e1 e2
      by_cases hn : hi < zs.length
      · obtain ⟨b, off, rfl, cl⟩ := HC.out hi hn
        generalize hy : zs.getD hi 0 = y at cl
        have Y := Lib.hid hy
        clear hy
        by_cases hyx : y = x
        · have s1 : (y == x) = true := by simpa using hyx
          have HX := Lib.hid hyx
          clear hyx
          go_wp2_with (go_at_call 88; refine (nanS_any _ _).mono ?_; rintro e w' ⟨rfl, rfl⟩)
          go_ret2
          refine ⟨?_, rfl⟩
          rw [E.out.1, E.out.2, Y.out, decide_eq_true (show hi < zs.length ∧ y = x from ⟨hn, HX.out⟩)]
          first | rfl | simp [*]
        · have s1 : (y == x) = false := by simpa using hyx
          have HX := Lib.hid hyx
          clear hyx
          go_wp2_with (go_at_call 88; refine (nanS_any _ _).mono ?_; rintro e w' ⟨rfl, rfl⟩)
          go_ret2
          refine ⟨?_, rfl⟩
          rw [E.out.1, E.out.2, Y.out, decide_eq_false (show ¬ (hi < zs.length ∧ y = x) from fun h => HX.out h.2)]
          first | rfl | simp [*]
      · go_wp2_with (go_at_call 88; refine (nanS_any _ _).mono ?_; rintro e w' ⟨rfl, rfl⟩)
        go_ret2
        refine ⟨?_, rfl⟩
        rw [E.out.1, E.out.2, decide_eq_false (show ¬ (hi < zs.length ∧ zs.getD hi 0 = x) from fun h => hn h.1)]
        first | rfl | simp [*]

theorem Try.enSpend1 (args : Array Value) (W : World) : (callFunc 52 args).run Try.prog W = .ok (.enter 52 args) W := by kernel_rfl
set_option maxHeartbeats 1000000 in
theorem spend1_any (c : Sc) (b : Nat) (key : ByteArray) (w : World) (hc : w.cell? ⟨b, 6, none⟩ = some (.string key)) (hb : b < w.heap.size) :
    Calls Try.prog 52 #[aSc c, .pointer (some ⟨b, 0, none⟩)] w fun e w' => e = .returned (.bool (decide (c.key = key))) ∧ Below w.heap.size w w' := by
  have HK := Lib.hid (key_eq c.key key)
  obtain ⟨c1, c2, c3, c4, c5⟩ := c
  go_enter Try.func52, Try.ntmps52
  go_wp2
  go_ret
  exact ⟨ret_bool HK.out, (Below.refl _ _).alloc (Nat.le_refl _) _⟩
theorem asksSp1 {w : World} {b : Nat} {key : ByteArray} (hc : w.cell? ⟨b, 6, none⟩ = some (.string key)) (l : List Sc) : Asks Try.prog w 52 #[.pointer (some ⟨b, 0, none⟩)] aSc (fun c => decide (c.key = key)) l := by
  have hb : b < w.heap.size := World.block_lt_of_cell? w _ hc
  exact ⟨Try.enSpend1, fun W hW x _ => spend1_any x b key W (held_below hc hW hb) (Nat.lt_of_lt_of_le hb hW.size)⟩

end Go.Proofs.Ytckonmlcgfbojaa
