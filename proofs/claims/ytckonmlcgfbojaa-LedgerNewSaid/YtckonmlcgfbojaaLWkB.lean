/- The walks of text, within, may; the reference's Text, counter. -/
import Derived.Test.YtckonmlcgfbojaaLWkA
namespace Go.Proofs.Ytckonmlcgfbojaa
open Go.RowKit

/-- A letter that may be. -/
def okC (c : UInt8) : Bool := !decide (c.toNat < 32) && !decide (c.toNat = 127)
def textS (s : ByteArray) : Bool := s.data.toList.all okC && decide (s.size ≤ 40)

theorem all_take {α : Type} (p : α → Bool) (l : List α) (k : Nat) (hk : k < l.length) : (l.take (k + 1)).all p = ((l.take k).all p && p l[k]) := by
  rw [take_snoc l k hk, List.all_append]; simp
theorem all_stop {α : Type} (p : α → Bool) (l : List α) (k : Nat) (hk : k < l.length) (h : p l[k] = false) : l.all p = false := by
  rw [List.all_eq_false]; exact ⟨l[k], List.getElem_mem hk, by rw [h]; simp⟩

set_option maxHeartbeats 1000000 in
theorem text_any (s : ByteArray) (w : World) (hs : s.size ≤ maxLen) :
    Calls Try.prog 70 #[.string s] w fun e w' => e = .returned (.bool (textS s)) ∧ w = w' := by
  unfold maxLen at hs
  go_enter Try.func70, Try.ntmps70
  go_wp2
  go_loop [6] (fun vk => ∃ k : Nat, k ≤ s.size ∧ vk = .int .i64 k ∧ (s.data.toList.take k).all okC = true) (fun vk => s.size - (intOf vk).toNat)
  case atStart => exact ⟨0, Nat.zero_le _, rfl, rfl⟩
  case round =>
    obtain ⟨k, hk, rfl, hall⟩ := hrel
    have HA := Lib.hid hall
    clear hall
    by_cases hlt : k < s.size
    · have hl : k < s.data.toList.length := by simpa using hlt
      have HT := Lib.hid (all_take okC s.data.toList k hl)
      have HST := Lib.hid (all_stop okC s.data.toList k hl)
      have e0 : s.data.toList[k] = s[k] := by rfl
      rw [e0] at HT HST
      clear e0
      by_cases h1 : s[k].toNat < 32
      · have HF : Hid (textS s = false) := by show _ = _; unfold textS; rw [HST.out (by unfold okC; simp [h1])]; rfl
        clear HT HST
        have g1 : (s[k].toNat : Int) < 32 := by omega
        go_wp2
        go_ret
        exact ⟨ret_bool HF.out.symm, rfl⟩
      · by_cases h2 : s[k].toNat = 127
        · have HF : Hid (textS s = false) := by show _ = _; unfold textS; rw [HST.out (by unfold okC; simp [h2])]; rfl
          clear HT HST
          have g1 : decide ((s[k].toNat : Int) < 32) = false := by simp; omega
          have g2 : ((s[k].toNat : Int) == 127) = true := by simp; omega
          go_wp2
          go_ret
          exact ⟨ret_bool HF.out.symm, rfl⟩
        · have HN : Hid ((s.data.toList.take (k + 1)).all okC = true) := by show _ = _; rw [HT.out, HA.out]; unfold okC; simp [h1, h2]
          clear HT HST
          have g1 : decide ((s[k].toNat : Int) < 32) = false := by simp; omega
          have g2 : ((s[k].toNat : Int) == 127) = false := by simp; omega
          go_wp2
          go_round
          case rel => exact ⟨k + 1, by omega, by go_num, HN.out⟩
          case measure => simp [intOf]; omega
    · have HK := Lib.hid hlt
      have HF : Hid (textS s = decide (s.size ≤ 40)) := by
        show _ = _
        have := HA.out
        rw [List.take_of_length_le (by simp; omega)] at this
        unfold textS; rw [this]; simp
      go_wp2
      go_ret
      exact ⟨ret_bool (by rw [HF.out]; simp; omega), rfl⟩

theorem lwithin_any (n a b : Int) (w : World) : Calls Try.prog 29 #[.int .i64 n, .int .i64 a, .int .i64 b] w fun e w' => e = .returned (.bool (decide (a ≤ n) && decide (n ≤ b))) ∧ w = w' := by
  by_cases h1 : a ≤ n
  · go_enter Try.func29, Try.ntmps29
    go_wp2
    go_ret
    exact ⟨by simp [h1], rfl⟩
  · have d : decide (a ≤ n) = false := by simpa using h1
    go_enter Try.func29, Try.ntmps29
    go_wp2
    go_ret
    exact ⟨by simp, rfl⟩

end Go.Proofs.Ytckonmlcgfbojaa
