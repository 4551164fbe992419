/- The walks of package ranges. -/
import Derived.Test.YtckonmlcgfbojaaRows
import Derived.Test.YtckonmlcgfbojaaRg
namespace Go.Proofs.Ytckonmlcgfbojaa
open Go.RowKit

set_option maxHeartbeats 400000 in
theorem len_any (v : Value) (l : List Rg) (w : World) (h : SlR w v l) (hs : Small l) (hl : l.length < 1000000) :
    Calls Try.prog 98 #[v] w fun e w' => e = .returned (.int .i64 (lenR l)) ∧ Below w.heap.size w w' := by
  obtain ⟨ao, cap, rfl, hcap, hm⟩ := Sl.shape h
  go_enter Try.func98, Try.ntmps98
  go_wp2
  go_loopw [3, 8] (fun n i wr => ∃ k : Nat, k ≤ l.length ∧ i = .int .i64 k ∧ n = .int .i64 (lenR (l.take k)) ∧ Below w.heap.size w wr) (fun _ i _ => l.length - (intOf i).toNat)
  case atStart => exact ⟨0, Nat.zero_le _, rfl, rfl, Below.refl _ _⟩
  case round =>
    obtain ⟨k, hk, rfl, rfl, hb⟩ := hrel
    by_cases hlt : k < l.length
    · obtain ⟨b, off, rfl, hbl, hc1, hc2⟩ := h.pair hb (Nat.le_refl _) k hlt
      have hz := hb.size
      have hbd := lenR_bounds _ (hs.take k)
      have hr := hs l[k] (List.getElem_mem _)
      have hln : (l.take k).length ≤ k := List.length_take_le _ _
      have HT := Lib.hid (lenR_append (l.take k) [l[k]])
      have HS := Lib.hid (take_snoc l k hlt)
      generalize l[k] = r at *
      obtain ⟨p, q⟩ := r
      simp only at hc1 hc2 hr
      obtain ⟨hr1, hr2, hr3⟩ := hr
      obtain ⟨hbd1, hbd2⟩ := hbd
      go_wp2
      go_roundw
      case rel => exact ⟨k + 1, by omega, by go_num, by rw [HS.out, HT.out]; simp [lenR], hb.alloc hz _⟩
      case measure => simp [intOf]; omega
    · go_wp2
      go_ret
      exact ⟨ret_int (by rw [List.take_of_length_le (by omega)]), hb⟩

theorem hasR_snoc (l : List Rg) (p q n : Int) : hasR (l ++ [(p, q)]) n = (hasR l n || (decide (p ≤ n) && decide (n < q))) := by
  simp [hasR]

set_option maxHeartbeats 400000 in
theorem has_any (v : Value) (l : List Rg) (n : Int) (w : World) (h : SlR w v l) (_hl : l.length < 1000000) :
    Calls Try.prog 53 #[v, .int .i64 n] w fun e w' => e = .returned (.bool (hasR l n)) ∧ Below w.heap.size w w' := by
  obtain ⟨ao, cap, rfl, hcap, hm⟩ := Sl.shape h
  go_enter Try.func53, Try.ntmps53
  go_wp2
  go_loopw [9] (fun i wr => ∃ k : Nat, k ≤ l.length ∧ i = .int .i64 k ∧ hasR (l.take k) n = false ∧ Below w.heap.size w wr) (fun i _ => l.length - (intOf i).toNat)
  case atStart => exact ⟨0, Nat.zero_le _, rfl, rfl, Below.refl _ _⟩
  case round =>
    obtain ⟨k, hk, rfl, hh, hb⟩ := hrel
    by_cases hlt : k < l.length
    · obtain ⟨b, off, rfl, hbl, hc1, hc2⟩ := h.pair hb (Nat.le_refl _) k hlt
      have hz := hb.size
      have HS := Lib.hid (take_snoc l k hlt)
      have HD := Lib.hid (List.take_append_drop (k + 1) l)
      have HH := Lib.hid hh
      clear hh
      generalize l[k] = r at *
      obtain ⟨p, q⟩ := r
      simp only at hc1 hc2
      by_cases h1 : p ≤ n
      · by_cases h2 : n < q
        · go_wp2
          go_ret
          refine ⟨ret_bool ?_, hb.alloc hz _⟩
          have e : hasR (l.take (k + 1) ++ l.drop (k + 1)) n = true := by
            rw [HS.out]; simp [hasR, h1, h2]
          rw [HD.out] at e
          exact e.symm
        · go_wp2
          go_roundw
          case rel => exact ⟨k + 1, by omega, by go_num, by rw [HS.out, hasR_snoc, HH.out]; simp [h2], hb.alloc hz _⟩
          case measure => simp [intOf]; omega
      · go_wp2
        go_roundw
        case rel => exact ⟨k + 1, by omega, by go_num, by rw [HS.out, hasR_snoc, HH.out]; simp [h1], hb.alloc hz _⟩
        case measure => simp [intOf]; omega
    · have HH := Lib.hid hh
      clear hh
      go_wp2
      go_ret
      refine ⟨ret_bool ?_, hb⟩
      have := HH.out
      rw [List.take_of_length_le (by omega)] at this
      exact this.symm

end Go.Proofs.Ytckonmlcgfbojaa
