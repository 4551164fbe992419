/- The law at whatever numbers. -/
import Derived.Test.YtknijgammlhhoaaGreatMk
import Derived.Test.YtknijgammlhhoaaGreatMtA
import Derived.Test.YtknijgammlhhoaaGreatMtB
import Derived.Test.YtknijgammlhhoaaGreatMtC
import Derived.Test.YtknijgammlhhoaaGreatMtD
set_option maxRecDepth 100000
set_option linter.all false
open Go Go.Ev
open Go.RowKit (Below)
namespace Go.Proofs
theorem top_of {x : Fact} (hx : FactOk Tryz.prog x) (s l : Nat) (ha : x.args = [.resL 40, .resC 6 s, .resC 3 l]) (hf : x.f = 3) (hn : x.n = 0) (hz : x.z ≤ 200000) (hv : x.v = .bool true) (hfit : x.fits x.args ⟨Tr.e, x.n, [], []⟩ = true)
    (n1 n2 n3 : Int) (h2 : n2 % 6 = (s : Int)) (h3 : n3 % 3 = (l : Int)) (W : World) : Calls Tryz.prog 3 #[.int .i64 n1, .int .i64 n2, .int .i64 n3] W fun e w' => e = .returned (.bool true) ∧ Below W.heap.size W w' := by
  have h0 := Int.emod_nonneg n1 (show (40 : Int) ≠ 0 by omega)
  have hr : Rel W.heap.size W (fun id => if id = lanId then some ((n1 % 40).toNat, 0) else none) (Tr.e : Tr AO) W := by
    refine ⟨Below.refl _ W, Nat.le_refl _, ?_, ?_⟩
    · intro id o e _
      rw [Tr.get_e] at e; cases e
    · intro id id' o o' B κ κ' e
      rw [Tr.get_e] at e; cases e
  have hc := hx.calls (vs := [.int .i64 n1, .int .i64 n2, .int .i64 n3]) hfit ?_ hr ?_
  · rw [hf] at hc
    refine Calls.mono hc ?_
    rintro e w' ⟨v', ρ', rfl, _, hV, hR⟩
    rw [hv] at hV
    exact ⟨by rw [show v' = .bool true from hV], hR.bel⟩
  · rw [ha]
    refine ⟨_, _, ⟨(n1 % 40).toNat, 0, n1, if_pos rfl, ?_, rfl⟩, ⟨_, _, ⟨n2, ?_, rfl⟩, ⟨_, _, ⟨n3, ?_, rfl⟩, rfl, rfl⟩, rfl⟩, rfl⟩
    · show n1 % ((40 : Nat) : Int) = _
      have : ((n1 % 40).toNat : Int) = n1 % 40 := Int.toNat_of_nonneg h0
      rw [this]; rfl
    · exact h2
    · exact h3
  · intro id h1 h4
    have : id ≠ lanId := by unfold lanId; omega
    show (if id = lanId then _ else none) = none
    rw [if_neg this]
end Go.Proofs
open Go Go.Ev
open Go.RowKit (Below)
namespace Go.Proofs
theorem top_calls (n1 n2 n3 : Int) (W : World) : Calls Tryz.prog 3 #[.int .i64 n1, .int .i64 n2, .int .i64 n3] W fun e w' => e = .returned (.bool true) ∧ Below W.heap.size W w' := by
  have a2 := Int.emod_nonneg n2 (show (6 : Int) ≠ 0 by omega)
  have b2 := Int.emod_lt_of_pos n2 (show (0 : Int) < 6 by omega)
  have a3 := Int.emod_nonneg n3 (show (3 : Int) ≠ 0 by omega)
  have b3 := Int.emod_lt_of_pos n3 (show (0 : Int) < 3 by omega)
  obtain ⟨s, hs⟩ : ∃ s : Nat, n2 % 6 = (s : Int) := ⟨(n2 % 6).toNat, by omega⟩
  obtain ⟨l, hl⟩ : ∃ l : Nat, n3 % 3 = (l : Int) := ⟨(n3 % 3).toNat, by omega⟩
  have h1 : s = 0 ∨ s = 1 ∨ s = 2 ∨ s = 3 ∨ s = 4 ∨ s = 5 := by omega
  have h2 : l = 0 ∨ l = 1 ∨ l = 2 := by omega
  clear a2 b2 a3 b3
  rcases h1 with rfl | rfl | rfl | rfl | rfl | rfl <;> rcases h2 with rfl | rfl | rfl
  · exact top_of ok_x26 0 0 rfl rfl rfl (Nat.le_of_ble_eq_true rfl) rfl (by decide +kernel) n1 n2 n3 hs hl W
  · exact top_of ok_x34 0 1 rfl rfl rfl (Nat.le_of_ble_eq_true rfl) rfl (by decide +kernel) n1 n2 n3 hs hl W
  · exact top_of ok_x42 0 2 rfl rfl rfl (Nat.le_of_ble_eq_true rfl) rfl (by decide +kernel) n1 n2 n3 hs hl W
  · exact top_of ok_x52 1 0 rfl rfl rfl (Nat.le_of_ble_eq_true rfl) rfl (by decide +kernel) n1 n2 n3 hs hl W
  · exact top_of ok_x60 1 1 rfl rfl rfl (Nat.le_of_ble_eq_true rfl) rfl (by decide +kernel) n1 n2 n3 hs hl W
  · exact top_of ok_x68 1 2 rfl rfl rfl (Nat.le_of_ble_eq_true rfl) rfl (by decide +kernel) n1 n2 n3 hs hl W
  · exact top_of ok_x78 2 0 rfl rfl rfl (Nat.le_of_ble_eq_true rfl) rfl (by decide +kernel) n1 n2 n3 hs hl W
  · exact top_of ok_x86 2 1 rfl rfl rfl (Nat.le_of_ble_eq_true rfl) rfl (by decide +kernel) n1 n2 n3 hs hl W
  · exact top_of ok_x94 2 2 rfl rfl rfl (Nat.le_of_ble_eq_true rfl) rfl (by decide +kernel) n1 n2 n3 hs hl W
  · exact top_of ok_x104 3 0 rfl rfl rfl (Nat.le_of_ble_eq_true rfl) rfl (by decide +kernel) n1 n2 n3 hs hl W
  · exact top_of ok_x112 3 1 rfl rfl rfl (Nat.le_of_ble_eq_true rfl) rfl (by decide +kernel) n1 n2 n3 hs hl W
  · exact top_of ok_x120 3 2 rfl rfl rfl (Nat.le_of_ble_eq_true rfl) rfl (by decide +kernel) n1 n2 n3 hs hl W
  · exact top_of ok_x131 4 0 rfl rfl rfl (Nat.le_of_ble_eq_true rfl) rfl (by decide +kernel) n1 n2 n3 hs hl W
  · exact top_of ok_x140 4 1 rfl rfl rfl (Nat.le_of_ble_eq_true rfl) rfl (by decide +kernel) n1 n2 n3 hs hl W
  · exact top_of ok_x149 4 2 rfl rfl rfl (Nat.le_of_ble_eq_true rfl) rfl (by decide +kernel) n1 n2 n3 hs hl W
  · exact top_of ok_x160 5 0 rfl rfl rfl (Nat.le_of_ble_eq_true rfl) rfl (by decide +kernel) n1 n2 n3 hs hl W
  · exact top_of ok_x169 5 1 rfl rfl rfl (Nat.le_of_ble_eq_true rfl) rfl (by decide +kernel) n1 n2 n3 hs hl W
  · exact top_of ok_x178 5 2 rfl rfl rfl (Nat.le_of_ble_eq_true rfl) rfl (by decide +kernel) n1 n2 n3 hs hl W
end Go.Proofs
