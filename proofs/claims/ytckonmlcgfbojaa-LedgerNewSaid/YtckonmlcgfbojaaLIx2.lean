/- slices.IndexFunc, slices.ContainsFunc, whatever function is handed in: the second half. -/
import Derived.Test.YtckonmlcgfbojaaLIx
namespace Go.Proofs.Ytckonmlcgfbojaa
open Go.RowKit

set_option maxRecDepth 100000 in
set_option maxHeartbeats 2000000 in
theorem idxRg_any (v : Value) (l : List Rg) (fn : Nat) (caps : Array Value) (p : Rg → Bool) (w : World) (h : SlR w v l) (hf : Asks Try.prog w fn caps aRg p l) :
    Calls Try.prog 102 #[v, .func (.func fn) #[] caps] w fun e w' => e = .returned (.int .i64 (idxS p l)) ∧ Below w.heap.size w w' := by
  obtain ⟨ao, cap, rfl, hcap, hm⟩ := Sl.shape h
  have HF := Lib.hid hf.ask
  have he := hf.en
  clear hf
  go_enter Try.func102, Try.ntmps102
  go_wp2
  go_loopw [8] (fun vk wr => ∃ k : Nat, k ≤ l.length ∧ vk = .int .i64 k ∧ (∀ j (hj : j < l.length), j < k → p l[j] = false) ∧ Below w.heap.size w wr) (fun vk _ => l.length - (intOf vk).toNat)
  case atStart => exact ⟨0, Nat.zero_le _, rfl, fun j _ hj => by omega, Below.refl _ _⟩
  case round =>
    obtain ⟨k, hk, rfl, hj, hb⟩ := hrel
    have HJ := Lib.hid hj
    clear hj
    rcases Nat.lt_or_ge k l.length with hlt | hge
    · obtain ⟨b, off, rfl, hbl, c0, c1⟩ := h.pair hb (Nat.le_refl _) k hlt
      obtain ⟨q, hq⟩ : ∃ q, p l[k] = q := ⟨_, rfl⟩
      have hc := HF.out wr hb l[k] (List.getElem_mem hlt)
      rw [hq] at hc
      have HC := Lib.hid hc
      have HAT : Hid (q = true → idxS p l = k) := fun h1 => idxS_at (p := p) (l := l) k hlt (fun j hj => HJ.out j (by omega) hj) (by rw [hq]; exact h1)
      have HNX : Hid (q = false → ∀ j (hj : j < l.length), j < k + 1 → p l[j] = false) := fun hh j hj hjk => by
        by_cases hjk2 : j = k
        · subst hjk2; rw [hq]; exact hh
        · exact HJ.out j hj (by omega)
      clear HJ HF hc hq
      have klt : (k : Int) < l.length := by omega
      generalize l[k] = r at *
      obtain ⟨r1, r2⟩ := r
      simp only at c0 c1
      go_wp2_with fail
      refine HC.out.mono ?_
      rintro e w1 ⟨rfl, hb1⟩
      have hb2 := hb.trans (hb1.mono hb.size)
      clear HC
      cases q with
      | true =>
        go_wp2
        go_ret
        exact ⟨ret_int (by rw [HAT.out (by first | rfl | trivial)]), hb2⟩
      | false =>
        go_wp2
        go_roundw
        case rel => exact ⟨k + 1, by omega, by go_num, HNX.out (by first | rfl | trivial), hb2⟩
        case measure => simp [intOf]; omega
    · have HK := Lib.hid hge
      go_wp2
      go_ret
      exact ⟨ret_int (by rw [idxS_none (fun x hx => by obtain ⟨j, hj, rfl⟩ := List.getElem_of_mem hx; exact HJ.out j hj (by have := HK.out; omega))]), hb⟩

set_option maxRecDepth 100000 in
set_option maxHeartbeats 2000000 in
theorem idxI_any (v : Value) (l : List Int) (fn : Nat) (caps : Array Value) (p : Int → Bool) (w : World) (h : SlI w v l) (hf : Asks Try.prog w fn caps (fun n => .int .i64 n) p l) :
    Calls Try.prog 96 #[v, .func (.func fn) #[] caps] w fun e w' => e = .returned (.int .i64 (idxS p l)) ∧ Below w.heap.size w w' := by
  obtain ⟨ao, cap, rfl, hcap, hm⟩ := Sl.shape h
  have HF := Lib.hid hf.ask
  have he := hf.en
  clear hf
  go_enter Try.func96, Try.ntmps96
  go_wp2
  go_loopw [8] (fun vk wr => ∃ k : Nat, k ≤ l.length ∧ vk = .int .i64 k ∧ (∀ j (hj : j < l.length), j < k → p l[j] = false) ∧ Below w.heap.size w wr) (fun vk _ => l.length - (intOf vk).toNat)
  case atStart => exact ⟨0, Nat.zero_le _, rfl, fun j _ hj => by omega, Below.refl _ _⟩
  case round =>
    obtain ⟨k, hk, rfl, hj, hb⟩ := hrel
    have HJ := Lib.hid hj
    clear hj
    rcases Nat.lt_or_ge k l.length with hlt | hge
    · obtain ⟨b, off, rfl, hbl, c0⟩ := h.cell hb (Nat.le_refl _) k hlt
      obtain ⟨q, hq⟩ : ∃ q, p l[k] = q := ⟨_, rfl⟩
      have hc := HF.out wr hb l[k] (List.getElem_mem hlt)
      rw [hq] at hc
      have HC := Lib.hid hc
      have HAT : Hid (q = true → idxS p l = k) := fun h1 => idxS_at (p := p) (l := l) k hlt (fun j hj => HJ.out j (by omega) hj) (by rw [hq]; exact h1)
      have HNX : Hid (q = false → ∀ j (hj : j < l.length), j < k + 1 → p l[j] = false) := fun hh j hj hjk => by
        by_cases hjk2 : j = k
        · subst hjk2; rw [hq]; exact hh
        · exact HJ.out j hj (by omega)
      clear HJ HF hc hq
      have klt : (k : Int) < l.length := by omega
      generalize l[k] = r at *
      go_wp2_with fail
      refine HC.out.mono ?_
      rintro e w1 ⟨rfl, hb1⟩
      have hb2 := hb.trans (hb1.mono hb.size)
      clear HC
      cases q with
      | true =>
        go_wp2
        go_ret
        exact ⟨ret_int (by rw [HAT.out (by first | rfl | trivial)]), hb2⟩
      | false =>
        go_wp2
        go_roundw
        case rel => exact ⟨k + 1, by omega, by go_num, HNX.out (by first | rfl | trivial), hb2⟩
        case measure => simp [intOf]; omega
    · have HK := Lib.hid hge
      go_wp2
      go_ret
      exact ⟨ret_int (by rw [idxS_none (fun x hx => by obtain ⟨j, hj, rfl⟩ := List.getElem_of_mem hx; exact HJ.out j hj (by have := HK.out; omega))]), hb⟩

set_option maxRecDepth 100000 in
set_option maxHeartbeats 2000000 in
theorem idxRs_any (v : Value) (l : List Sv) (fn : Nat) (caps : Array Value) (p : Sv → Bool) (w : World) (h : SlT cSv 1 w v l) (hf : Asks Try.prog w fn caps Sv.v p l) :
    Calls Try.prog 97 #[v, .func (.func fn) #[] caps] w fun e w' => e = .returned (.int .i64 (idxS p l)) ∧ Below w.heap.size w w' := by
  obtain ⟨ao, cap, rfl, hcap, hm⟩ := Sl.shape h
  have HF := Lib.hid hf.ask
  have he := hf.en
  clear hf
  go_enter Try.func97, Try.ntmps97
  go_wp2
  go_loopw [8] (fun vk wr => ∃ k : Nat, k ≤ l.length ∧ vk = .int .i64 k ∧ (∀ j (hj : j < l.length), j < k → p l[j] = false) ∧ Below w.heap.size w wr) (fun vk _ => l.length - (intOf vk).toNat)
  case atStart => exact ⟨0, Nat.zero_le _, rfl, fun j _ hj => by omega, Below.refl _ _⟩
  case round =>
    obtain ⟨k, hk, rfl, hj, hb⟩ := hrel
    have HJ := Lib.hid hj
    clear hj
    rcases Nat.lt_or_ge k l.length with hlt | hge
    · obtain ⟨b, off, rfl, hbl, c0⟩ := SlT.sv h hb (Nat.le_refl _) k hlt
      obtain ⟨q, hq⟩ : ∃ q, p l[k] = q := ⟨_, rfl⟩
      have hc := HF.out wr hb l[k] (List.getElem_mem hlt)
      rw [hq] at hc
      have HC := Lib.hid hc
      have HAT : Hid (q = true → idxS p l = k) := fun h1 => idxS_at (p := p) (l := l) k hlt (fun j hj => HJ.out j (by omega) hj) (by rw [hq]; exact h1)
      have HNX : Hid (q = false → ∀ j (hj : j < l.length), j < k + 1 → p l[j] = false) := fun hh j hj hjk => by
        by_cases hjk2 : j = k
        · subst hjk2; rw [hq]; exact hh
        · exact HJ.out j hj (by omega)
      clear HJ HF hc hq
      have klt : (k : Int) < l.length := by omega
      generalize l[k] = r at *
      go_wp2_with fail
      refine HC.out.mono ?_
      rintro e w1 ⟨rfl, hb1⟩
      have hb2 := hb.trans (hb1.mono hb.size)
      clear HC
      cases q with
      | true =>
        go_wp2
        go_ret
        exact ⟨ret_int (by rw [HAT.out (by first | rfl | trivial)]), hb2⟩
      | false =>
        go_wp2
        go_roundw
        case rel => exact ⟨k + 1, by omega, by go_num, HNX.out (by first | rfl | trivial), hb2⟩
        case measure => simp [intOf]; omega
    · have HK := Lib.hid hge
      go_wp2
      go_ret
      exact ⟨ret_int (by rw [idxS_none (fun x hx => by obtain ⟨j, hj, rfl⟩ := List.getElem_of_mem hx; exact HJ.out j hj (by have := HK.out; omega))]), hb⟩

set_option maxHeartbeats 400000 in
theorem hasWn_any (v : Value) (l : List Wn) (fn : Nat) (caps : Array Value) (p : Wn → Bool) (w : World) (h : SlWn w v l) (hf : Asks Try.prog w fn caps aWn p l) :
    Calls Try.prog 40 #[v, .func (.func fn) #[] caps] w fun e w' => e = .returned (.bool (l.any p)) ∧ Below w.heap.size w w' := by
  have HA := Lib.hid (idxS_any p l)
  have hge := idxS_ge p l
  have HI := Lib.hid (idxWn_any v l fn caps p w h hf)
  obtain ⟨ao, cap, rfl, hcap, hm⟩ := Sl.shape h
  clear hf h
  generalize idxS p l = q at *
  go_enter Try.func40, Try.ntmps40
  go_wp2_with fail
  refine HI.out.mono ?_
  rintro e w1 ⟨rfl, hb1⟩
  go_wp2
  go_ret
  exact ⟨ret_bool HA.out, hb1⟩

set_option maxHeartbeats 400000 in
theorem hasLs_any (v : Value) (l : List LsC) (fn : Nat) (caps : Array Value) (p : LsC → Bool) (w : World) (h : SlT cLs 7 w v l) (hf : Asks Try.prog w fn caps aLs p l) :
    Calls Try.prog 38 #[v, .func (.func fn) #[] caps] w fun e w' => e = .returned (.bool (l.any p)) ∧ Below w.heap.size w w' := by
  have HA := Lib.hid (idxS_any p l)
  have hge := idxS_ge p l
  have HI := Lib.hid (idxLs_any v l fn caps p w h hf)
  obtain ⟨ao, cap, rfl, hcap, hm⟩ := Sl.shape h
  clear hf h
  generalize idxS p l = q at *
  go_enter Try.func38, Try.ntmps38
  go_wp2_with fail
  refine HI.out.mono ?_
  rintro e w1 ⟨rfl, hb1⟩
  go_wp2
  go_ret
  exact ⟨ret_bool HA.out, hb1⟩

set_option maxHeartbeats 400000 in
theorem hasRg_any (v : Value) (l : List Rg) (fn : Nat) (caps : Array Value) (p : Rg → Bool) (w : World) (h : SlR w v l) (hf : Asks Try.prog w fn caps aRg p l) :
    Calls Try.prog 93 #[v, .func (.func fn) #[] caps] w fun e w' => e = .returned (.bool (l.any p)) ∧ Below w.heap.size w w' := by
  have HA := Lib.hid (idxS_any p l)
  have hge := idxS_ge p l
  have HI := Lib.hid (idxRg_any v l fn caps p w h hf)
  obtain ⟨ao, cap, rfl, hcap, hm⟩ := Sl.shape h
  clear hf h
  generalize idxS p l = q at *
  go_enter Try.func93, Try.ntmps93
  go_wp2_with fail
  refine HI.out.mono ?_
  rintro e w1 ⟨rfl, hb1⟩
  go_wp2
  go_ret
  exact ⟨ret_bool HA.out, hb1⟩

set_option maxHeartbeats 400000 in
theorem hasI_any (v : Value) (l : List Int) (fn : Nat) (caps : Array Value) (p : Int → Bool) (w : World) (h : SlI w v l) (hf : Asks Try.prog w fn caps (fun n => .int .i64 n) p l) :
    Calls Try.prog 66 #[v, .func (.func fn) #[] caps] w fun e w' => e = .returned (.bool (l.any p)) ∧ Below w.heap.size w w' := by
  have HA := Lib.hid (idxS_any p l)
  have hge := idxS_ge p l
  have HI := Lib.hid (idxI_any v l fn caps p w h hf)
  obtain ⟨ao, cap, rfl, hcap, hm⟩ := Sl.shape h
  clear hf h
  generalize idxS p l = q at *
  go_enter Try.func66, Try.ntmps66
  go_wp2_with fail
  refine HI.out.mono ?_
  rintro e w1 ⟨rfl, hb1⟩
  go_wp2
  go_ret
  exact ⟨ret_bool HA.out, hb1⟩

set_option maxHeartbeats 400000 in
theorem hasRs_any (v : Value) (l : List Sv) (fn : Nat) (caps : Array Value) (p : Sv → Bool) (w : World) (h : SlT cSv 1 w v l) (hf : Asks Try.prog w fn caps Sv.v p l) :
    Calls Try.prog 68 #[v, .func (.func fn) #[] caps] w fun e w' => e = .returned (.bool (l.any p)) ∧ Below w.heap.size w w' := by
  have HA := Lib.hid (idxS_any p l)
  have hge := idxS_ge p l
  have HI := Lib.hid (idxRs_any v l fn caps p w h hf)
  obtain ⟨ao, cap, rfl, hcap, hm⟩ := Sl.shape h
  clear hf h
  generalize idxS p l = q at *
  go_enter Try.func68, Try.ntmps68
  go_wp2_with fail
  refine HI.out.mono ?_
  rintro e w1 ⟨rfl, hb1⟩
  go_wp2
  go_ret
  exact ⟨ret_bool HA.out, hb1⟩

end Go.Proofs.Ytckonmlcgfbojaa
