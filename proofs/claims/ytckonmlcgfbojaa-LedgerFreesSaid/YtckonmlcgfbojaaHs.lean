/- The walk of the reference's Has. -/
import Derived.Test.YtckonmlcgfbojaaLib
namespace Go.Proofs.Ytckonmlcgfbojaa
open Go.RowKit

set_option maxHeartbeats 1000000 in
theorem rhas_any (v : Value) (l : List Rg) (n : Int) (w : World) (h : SlR w v l) :
    Calls Try.prog 25 #[v, .int .i64 n] w fun e w' => e = .returned (.bool (hasR l n)) ∧ w' = w := by
  obtain ⟨ao, cap, rfl, hcap, hm⟩ := Sl.shape h
  go_enter Try.func25, Try.ntmps25
  go_wp2
  go_loop [5] (fun i => ∃ j : Nat, j ≤ l.length ∧ i = .int .i64 j ∧ Hid (hasR (l.take j) n = false)) (fun i => l.length - (intOf i).toNat)
  case atStart => exact ⟨0, Nat.zero_le _, rfl, Lib.hid (by simp [hasR])⟩
  case round =>
    obtain ⟨j, hj, rfl, HJ⟩ := hrel
    by_cases hlt : j < l.length
    · obtain ⟨b, off, rfl, hbl, c0, c1⟩ := SlR.pair h (Below.refl _ _) (Nat.le_refl _) j hlt
      have jlt : (j : Int) < l.length := by omega
      have HS := Lib.hid (take_snoc l j hlt)
      have HX : Hid (l[j].1 ≤ n → n < l[j].2 → hasR l n = true) := Lib.hid (fun h1 h2 => by
        unfold hasR; rw [List.any_eq_true]; exact ⟨l[j], List.getElem_mem _, by simp [h1, h2]⟩)
      have HN : Hid (¬ (l[j].1 ≤ n ∧ n < l[j].2) → hasR (l.take (j + 1)) n = false) := Lib.hid (fun h1 => by
        have h0 := HJ.out
        unfold hasR at h0 ⊢
        rw [HS.out, List.any_append, h0]
        simp
        intro h2
        omega)
      generalize l[j] = r at *
      obtain ⟨p, q⟩ := r
      simp only at c0 c1 HX HN
      by_cases h1 : p ≤ n
      · by_cases h2 : n < q
        · go_wp2
          go_ret
          exact ⟨ret_bool (by rw [HX.out h1 h2]), rfl⟩
        · have HN2 := Lib.hid (HN.out (fun e => h2 e.2))
          go_wp2
          go_round
          case rel => exact ⟨j + 1, by omega, by go_num, HN2⟩
          case measure => simp [intOf]; omega
      · have HN2 := Lib.hid (HN.out (fun e => h1 e.1))
        have e1 : decide (p ≤ n) = false := by simpa using h1
        go_wp2
        go_round
        case rel => exact ⟨j + 1, by omega, by go_num, HN2⟩
        case measure => simp [intOf]; omega
    · have HF : Hid (hasR l n = false) := Lib.hid (by have := HJ.out; rwa [List.take_of_length_le (by omega)] at this)
      have e1 : decide (j < l.length) = false := by simpa using hlt
      go_wp2
      go_ret
      exact ⟨ret_bool HF.out.symm, rfl⟩

end Go.Proofs.Ytckonmlcgfbojaa
