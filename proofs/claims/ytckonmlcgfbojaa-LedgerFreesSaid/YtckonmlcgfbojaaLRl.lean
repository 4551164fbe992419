/- The walk of the reference's Len. -/
import Derived.Test.YtckonmlcgfbojaaLLa
import Derived.IntWalk
namespace Go.Proofs.Ytckonmlcgfbojaa
open Go.RowKit

set_option maxHeartbeats 2000000 in
theorem rlen_any (v : Value) (l : List Rg) (w : World) (h : SlR w v l) (hs : Small l) (hl : l.length < 1000000) :
    Calls Try.prog 19 #[v] w fun e w' => e = .returned (.int .i64 (lenR l)) ∧ Below w.heap.size w w' := by
  obtain ⟨ao, cap, rfl, hcap, hm⟩ := Sl.shape h
  go_enter Try.func19, Try.ntmps19
  go_wp2
  go_loopw [3, 4] (fun n i wr => ∃ (k : Nat) (N : Int), k ≤ l.length ∧ i = .int .i64 k ∧ n = .int .i64 N ∧ Hid (N = lenR (l.take k)) ∧ Below w.heap.size w wr) (fun _ i _ => l.length - (intOf i).toNat)
  case atStart => exact ⟨0, 0, Nat.zero_le _, rfl, rfl, Lib.hid rfl, Below.refl _ _⟩
  case round =>
    obtain ⟨k, N, hk, rfl, rfl, HN, hb⟩ := hrel
    by_cases hlt : k < l.length
    · obtain ⟨b, off, rfl, hbl, hc1, hc2⟩ := h.pair hb (Nat.le_refl _) k hlt
      have hbd := lenR_bounds _ (hs.take k)
      rw [← HN.out] at hbd
      have hr := hs l[k] (List.getElem_mem _)
      have hln : (l.take k).length ≤ k := List.length_take_le _ _
      have HT := Lib.hid (lenR_append (l.take k) [l[k]])
      have HS := Lib.hid (take_snoc l k hlt)
      generalize l[k] = r at *
      obtain ⟨p, q⟩ := r
      simp only at hc1 hc2 hr
      obtain ⟨hr1, hr2, hr3⟩ := hr
      obtain ⟨hbd1, hbd2⟩ := hbd
      have klt : (k : Int) < l.length := by omega
      have i1 : IntKind.i64.wrap (N + q) = N + q := IntWalk.i64_in _ (by omega)
      have i2 : IntKind.i64.wrap (N + q - p) = N + q - p := IntWalk.i64_in _ (by omega)
      clear hbd1 hbd2 hln
      go_wp2_with fail
      go_quiet (fail)
      clear i1 i2
      go_wp2
      go_roundw
      case rel => exact ⟨k + 1, N + q - p, by omega, by go_num, rfl, Lib.hid (by rw [HS.out, HT.out, HN.out]; simp [lenR]; omega), below_drewN hb _⟩
      case measure => simp [intOf]; omega
    · have HE : Hid (N = lenR l) := Lib.hid (by rw [HN.out, List.take_of_length_le (by omega)])
      go_wp2
      go_ret
      exact ⟨ret_int HE.out, hb⟩

end Go.Proofs.Ytckonmlcgfbojaa
