/- The walks of cmp.Compare, cmp.Or of two numbers. -/
import Derived.Test.YtoiegjfpoamcbaaRows
import Derived.Test.YtoiegjfpoamcbaaLib4
import Derived.StillTailTactics
namespace Go.Proofs.Ytoiegjfpoamcbaa
open Go.RowKit

def cmpS (a b : Int) : Int := if a < b then -1 else if b < a then 1 else 0

set_option maxHeartbeats 400000 in
theorem cmp_any (a b : Int) (w : World) : Calls Try.prog 47 #[.int .i64 a, .int .i64 b] w fun e w' => e = .returned (.int .i64 (cmpS a b)) ∧ w = w' := by
  rcases Int.lt_trichotomy a b with h | h | h
  · have e : cmpS a b = -1 := by simp [cmpS, h]
    rw [e]
    go_enter Try.func47, Try.ntmps47
    go_wp2
    go_ret
    exact ⟨rfl, rfl⟩
  · subst h
    have e : cmpS a a = 0 := by simp [cmpS]
    rw [e]
    go_enter Try.func47, Try.ntmps47
    go_wp2
    go_ret
    exact ⟨rfl, rfl⟩
  · have e : cmpS a b = 1 := by simp [cmpS, h]; omega
    have hn : ¬ a < b := by omega
    rw [e]
    go_enter Try.func47, Try.ntmps47
    go_wp2
    go_ret
    exact ⟨rfl, rfl⟩

def orS (x y : Int) : Int := if x = 0 then y else x

set_option maxHeartbeats 400000 in
theorem or_any (b : Nat) (x y : Int) (w : World) (c0 : w.cell? ⟨b, 0, none⟩ = some (.int .i64 x)) (c1 : w.cell? ⟨b, 1, none⟩ = some (.int .i64 y)) :
    Calls Try.prog 46 #[.slice (some ⟨b, 0, none⟩) 2 2] w fun e w' => e = .returned (.int .i64 (orS x y)) ∧ w = w' := by
  go_enter Try.func46, Try.ntmps46
  go_wp2
  go_loop [8] (fun i => (i = .int .i64 0 ∨ (i = .int .i64 1 ∧ x = 0) ∨ (i = .int .i64 2 ∧ x = 0 ∧ y = 0))) (fun i => 3 - (intOf i).toNat)
  case atStart => exact .inl rfl
  case round =>
    rcases hrel with rfl | ⟨rfl, hx⟩ | ⟨rfl, hx, hy⟩
    · by_cases h : x = 0
      · subst h
        go_wp2
        go_round
        case rel => exact .inr (.inl ⟨rfl, by first | rfl | trivial⟩)
        case measure => simp [intOf]
      · have e : (x != 0) = true := by simpa using h
        have HO : Hid (orS x y = x) := by show _ = _; simp [orS, h]
        clear h
        go_wp2
        go_ret
        first | exact ⟨ret_int HO.out.symm, rfl⟩ | exact ⟨by first | exact ret_int HO.out.symm | trivial, by trivial⟩
    · subst hx
      by_cases h : y = 0
      · subst h
        go_wp2
        go_round
        case rel => simp
        case measure => simp [intOf]
      · have e : (y != 0) = true := by simpa using h
        have HO : Hid (orS 0 y = y) := by show _ = _; simp [orS]
        clear h
        go_wp2
        go_ret
        first | exact ⟨ret_int HO.out.symm, rfl⟩ | exact ⟨by first | exact ret_int HO.out.symm | trivial, by trivial⟩
    · subst hx hy
      have HO : Hid (orS 0 0 = 0) := rfl
      go_wp2
      go_ret
      first | exact ⟨ret_int HO.out.symm, rfl⟩ | exact ⟨by first | exact ret_int HO.out.symm | trivial, by trivial⟩

/-- The order of two pairs. -/

theorem bcell {W w1 : World} (hb : Below W.heap.size W w1) : (∀ b o, b < W.heap.size → w1.cell? ⟨b, o, none⟩ = W.cell? ⟨b, o, none⟩) ∧ W.heap.size ≤ w1.heap.size :=
  ⟨fun b o h => hb.cell (p := ⟨b, o, none⟩) h, hb.size⟩
theorem held_below {w w' : World} {a : Addr} {x : Value} {B : Nat} (h : w.cell? a = some x) (hb : Below B w w') (hB : a.block < B) : w'.cell? a = some x := by rw [hb.cell hB]; exact h
theorem cell_behind {w0 : World} {a : Addr} {x : Value} (h : w0.cell? a = some x) (hB : a.block < w0.heap.size) : ∀ W, Below w0.heap.size w0 W → W.cell? a = some x := by
  intro W hW
  rw [hW.cell hB]; exact h

end Go.Proofs.Ytoiegjfpoamcbaa
