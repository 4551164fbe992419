/- slices.IndexFunc, slices.ContainsFunc, whatever function is handed in. slices.IndexFunc, slices.ContainsFunc, whatever function is handed in: the second half. The walks of the closures over a key, over a device and an epoch; counter, at, place. The walks of text, within, may; the reference's Text, counter. The walks of may; the reference's Text, counter, place. -/
import Derived.Test.YtckonmlcgfbojaaLib

namespace Go.Proofs.Ytckonmlcgfbojaa
open Go.RowKit

/-- Told of each thing of a list, behind a world: the function answers p, and turns nothing that was there. -/
structure Asks {α : Type} (P : Program) (w : World) (fn : Nat) (caps : Array Value) (enc : α → Value) (p : α → Bool) (l : List α) : Prop where
  en : ∀ (args : Array Value) (W : World), (callFunc fn args).run P W = .ok (.enter fn args) W
  ask : ∀ W, Below w.heap.size w W → ∀ x ∈ l, Calls P fn (#[enc x] ++ caps) W fun e W' => e = .returned (.bool (p x)) ∧ Below W.heap.size W W'

abbrev aRg (r : Rg) : Value := .agg #[.int .i64 r.1, .int .i64 r.2]
def cSv (s : Sv) : List Value := [s.v]
theorem cSv_len (s : Sv) : (cSv s).length = 1 := rfl
theorem cSv_one (c : Sv) : ∀ u ∈ cSv c, u.oneCell' = true := by intro u hu; simp [cSv] at hu; subst hu; rfl
theorem SlT.sv {w wr : World} {l : List Sv} {ao : Option Addr} {cap B : Nat} (h : SlT cSv 1 w (.slice ao l.length cap) l) (hb : Below B w wr) (hB : w.heap.size ≤ B) (k : Nat) (hk : k < l.length) :
    ∃ b off, ao = some ⟨b, off, none⟩ ∧ b < w.heap.size ∧ wr.cell? ⟨b, off + k, none⟩ = some l[k].v := by
  obtain ⟨b, off, h1, h2, h3⟩ := SlT.at h cSv_len (by omega) hb hB k hk
  have := h3 0 _ rfl
  rw [Nat.mul_one, Nat.add_zero] at this
  exact ⟨b, off, h1, h2, this⟩

set_option maxRecDepth 100000 in
set_option maxHeartbeats 2000000 in
theorem idxCt_any (v : Value) (l : List Ct) (fn : Nat) (caps : Array Value) (p : Ct → Bool) (w : World) (h : SlCt w v l) (hf : Asks Try.prog w fn caps aCt p l) :
    Calls Try.prog 71 #[v, .func (.func fn) #[] caps] w fun e w' => e = .returned (.int .i64 (idxS p l)) ∧ Below w.heap.size w w' := by
  obtain ⟨ao, cap, rfl, hcap, hm⟩ := Sl.shape h
  have HF := Lib.hid hf.ask
  have he := hf.en
  clear hf
  go_enter Try.func71, Try.ntmps71
  go_wp2
  go_loopw [8] (fun vk wr => ∃ k : Nat, k ≤ l.length ∧ vk = .int .i64 k ∧ (∀ j (hj : j < l.length), j < k → p l[j] = false) ∧ Below w.heap.size w wr) (fun vk _ => l.length - (intOf vk).toNat)
  case atStart => exact ⟨0, Nat.zero_le _, rfl, fun j _ hj => by omega, Below.refl _ _⟩
  case round =>
    obtain ⟨k, hk, rfl, hj, hb⟩ := hrel
    have HJ := Lib.hid hj
    clear hj
    rcases Nat.lt_or_ge k l.length with hlt | hge
    · obtain ⟨b, off, rfl, hbl, c0, c1, c2, c3, c4, c5, c6⟩ := SlT.ct h hb (Nat.le_refl _) k hlt
      obtain ⟨q, hq⟩ : ∃ q, p l[k] = q := ⟨_, rfl⟩
      have hc := HF.out wr hb l[k] (List.getElem_mem hlt)
      rw [hq] at hc
      have HC := Lib.hid hc
      have HAT : Hid (q = true → idxS p l = k) := fun h1 => idxS_at (p := p) (l := l) k hlt (fun j hj => HJ.out j (by omega) hj) (by rw [hq]; exact h1)
      have HNX : Hid (q = false → ∀ j (hj : j < l.length), j < k + 1 → p l[j] = false) := fun hh j hj hjk => by
        by_cases hjk2 : j = k
        · subst hjk2; rw [hq]; exact hh
        · exact HJ.out j hj (by omega)
      clear HJ HF hc hq
      have klt : (k : Int) < l.length := by omega
      generalize l[k] = r at *
      obtain ⟨r1, r2, r3, r4, r5, r6, r7⟩ := r
      simp only at c0 c1 c2 c3 c4 c5 c6
      go_wp2_with fail
      refine HC.out.mono ?_
      rintro e w1 ⟨rfl, hb1⟩
      have hb2 := hb.trans (hb1.mono hb.size)
      clear HC
      cases q with
      | true =>
        go_wp2
        go_ret
        exact ⟨ret_int (by rw [HAT.out (by first | rfl | trivial)]), hb2⟩
      | false =>
        go_wp2
        go_roundw
        case rel => exact ⟨k + 1, by omega, by go_num, HNX.out (by first | rfl | trivial), hb2⟩
        case measure => simp [intOf]; omega
    · have HK := Lib.hid hge
      go_wp2
      go_ret
      exact ⟨ret_int (by rw [idxS_none (fun x hx => by obtain ⟨j, hj, rfl⟩ := List.getElem_of_mem hx; exact HJ.out j hj (by have := HK.out; omega))]), hb⟩

set_option maxRecDepth 100000 in
set_option maxHeartbeats 2000000 in
theorem idxSc_any (v : Value) (l : List Sc) (fn : Nat) (caps : Array Value) (p : Sc → Bool) (w : World) (h : SlSc w v l) (hf : Asks Try.prog w fn caps aSc p l) :
    Calls Try.prog 51 #[v, .func (.func fn) #[] caps] w fun e w' => e = .returned (.int .i64 (idxS p l)) ∧ Below w.heap.size w w' := by
  obtain ⟨ao, cap, rfl, hcap, hm⟩ := Sl.shape h
  have HF := Lib.hid hf.ask
  have he := hf.en
  clear hf
  go_enter Try.func51, Try.ntmps51
  go_wp2
  go_loopw [8] (fun vk wr => ∃ k : Nat, k ≤ l.length ∧ vk = .int .i64 k ∧ (∀ j (hj : j < l.length), j < k → p l[j] = false) ∧ Below w.heap.size w wr) (fun vk _ => l.length - (intOf vk).toNat)
  case atStart => exact ⟨0, Nat.zero_le _, rfl, fun j _ hj => by omega, Below.refl _ _⟩
  case round =>
    obtain ⟨k, hk, rfl, hj, hb⟩ := hrel
    have HJ := Lib.hid hj
    clear hj
    rcases Nat.lt_or_ge k l.length with hlt | hge
    · obtain ⟨b, off, rfl, hbl, c0, c1, c2, c3, c4⟩ := SlT.sc h hb (Nat.le_refl _) k hlt
      obtain ⟨q, hq⟩ : ∃ q, p l[k] = q := ⟨_, rfl⟩
      have hc := HF.out wr hb l[k] (List.getElem_mem hlt)
      rw [hq] at hc
      have HC := Lib.hid hc
      have HAT : Hid (q = true → idxS p l = k) := fun h1 => idxS_at (p := p) (l := l) k hlt (fun j hj => HJ.out j (by omega) hj) (by rw [hq]; exact h1)
      have HNX : Hid (q = false → ∀ j (hj : j < l.length), j < k + 1 → p l[j] = false) := fun hh j hj hjk => by
        by_cases hjk2 : j = k
        · subst hjk2; rw [hq]; exact hh
        · exact HJ.out j hj (by omega)
      clear HJ HF hc hq
      have klt : (k : Int) < l.length := by omega
      generalize l[k] = r at *
      obtain ⟨r1, r2, r3, r4, r5⟩ := r
      simp only at c0 c1 c2 c3 c4
      go_wp2_with fail
      refine HC.out.mono ?_
      rintro e w1 ⟨rfl, hb1⟩
      have hb2 := hb.trans (hb1.mono hb.size)
      clear HC
      cases q with
      | true =>
        go_wp2
        go_ret
        exact ⟨ret_int (by rw [HAT.out (by first | rfl | trivial)]), hb2⟩
      | false =>
        go_wp2
        go_roundw
        case rel => exact ⟨k + 1, by omega, by go_num, HNX.out (by first | rfl | trivial), hb2⟩
        case measure => simp [intOf]; omega
    · have HK := Lib.hid hge
      go_wp2
      go_ret
      exact ⟨ret_int (by rw [idxS_none (fun x hx => by obtain ⟨j, hj, rfl⟩ := List.getElem_of_mem hx; exact HJ.out j hj (by have := HK.out; omega))]), hb⟩

set_option maxRecDepth 100000 in
set_option maxHeartbeats 2000000 in
theorem idxWn_any (v : Value) (l : List Wn) (fn : Nat) (caps : Array Value) (p : Wn → Bool) (w : World) (h : SlWn w v l) (hf : Asks Try.prog w fn caps aWn p l) :
    Calls Try.prog 80 #[v, .func (.func fn) #[] caps] w fun e w' => e = .returned (.int .i64 (idxS p l)) ∧ Below w.heap.size w w' := by
  obtain ⟨ao, cap, rfl, hcap, hm⟩ := Sl.shape h
  have HF := Lib.hid hf.ask
  have he := hf.en
  clear hf
  go_enter Try.func80, Try.ntmps80
  go_wp2
  go_loopw [8] (fun vk wr => ∃ k : Nat, k ≤ l.length ∧ vk = .int .i64 k ∧ (∀ j (hj : j < l.length), j < k → p l[j] = false) ∧ Below w.heap.size w wr) (fun vk _ => l.length - (intOf vk).toNat)
  case atStart => exact ⟨0, Nat.zero_le _, rfl, fun j _ hj => by omega, Below.refl _ _⟩
  case round =>
    obtain ⟨k, hk, rfl, hj, hb⟩ := hrel
    have HJ := Lib.hid hj
    clear hj
    rcases Nat.lt_or_ge k l.length with hlt | hge
    · obtain ⟨b, off, rfl, hbl, c0, c1, c2, c3⟩ := SlT.wn h hb (Nat.le_refl _) k hlt
      obtain ⟨q, hq⟩ : ∃ q, p l[k] = q := ⟨_, rfl⟩
      have hc := HF.out wr hb l[k] (List.getElem_mem hlt)
      rw [hq] at hc
      have HC := Lib.hid hc
      have HAT : Hid (q = true → idxS p l = k) := fun h1 => idxS_at (p := p) (l := l) k hlt (fun j hj => HJ.out j (by omega) hj) (by rw [hq]; exact h1)
      have HNX : Hid (q = false → ∀ j (hj : j < l.length), j < k + 1 → p l[j] = false) := fun hh j hj hjk => by
        by_cases hjk2 : j = k
        · subst hjk2; rw [hq]; exact hh
        · exact HJ.out j hj (by omega)
      clear HJ HF hc hq
      have klt : (k : Int) < l.length := by omega
      generalize l[k] = r at *
      obtain ⟨r1, r2, r3, r4⟩ := r
      simp only at c0 c1 c2 c3
      go_wp2_with fail
      refine HC.out.mono ?_
      rintro e w1 ⟨rfl, hb1⟩
      have hb2 := hb.trans (hb1.mono hb.size)
      clear HC
      cases q with
      | true =>
        go_wp2
        go_ret
        exact ⟨ret_int (by rw [HAT.out (by first | rfl | trivial)]), hb2⟩
      | false =>
        go_wp2
        go_roundw
        case rel => exact ⟨k + 1, by omega, by go_num, HNX.out (by first | rfl | trivial), hb2⟩
        case measure => simp [intOf]; omega
    · have HK := Lib.hid hge
      go_wp2
      go_ret
      exact ⟨ret_int (by rw [idxS_none (fun x hx => by obtain ⟨j, hj, rfl⟩ := List.getElem_of_mem hx; exact HJ.out j hj (by have := HK.out; omega))]), hb⟩

set_option maxRecDepth 100000 in
set_option maxHeartbeats 2000000 in
theorem idxLs_any (v : Value) (l : List LsC) (fn : Nat) (caps : Array Value) (p : LsC → Bool) (w : World) (h : SlT cLs 7 w v l) (hf : Asks Try.prog w fn caps aLs p l) :
    Calls Try.prog 79 #[v, .func (.func fn) #[] caps] w fun e w' => e = .returned (.int .i64 (idxS p l)) ∧ Below w.heap.size w w' := by
  obtain ⟨ao, cap, rfl, hcap, hm⟩ := Sl.shape h
  have HF := Lib.hid hf.ask
  have he := hf.en
  clear hf
  go_enter Try.func79, Try.ntmps79
  go_wp2
  go_loopw [8] (fun vk wr => ∃ k : Nat, k ≤ l.length ∧ vk = .int .i64 k ∧ (∀ j (hj : j < l.length), j < k → p l[j] = false) ∧ Below w.heap.size w wr) (fun vk _ => l.length - (intOf vk).toNat)
  case atStart => exact ⟨0, Nat.zero_le _, rfl, fun j _ hj => by omega, Below.refl _ _⟩
  case round =>
    obtain ⟨k, hk, rfl, hj, hb⟩ := hrel
    have HJ := Lib.hid hj
    clear hj
    rcases Nat.lt_or_ge k l.length with hlt | hge
    · obtain ⟨b, off, rfl, hbl, c0, c1, c2, c3, c4, c5, c6⟩ := SlT.ls h hb (Nat.le_refl _) k hlt
      obtain ⟨q, hq⟩ : ∃ q, p l[k] = q := ⟨_, rfl⟩
      have hc := HF.out wr hb l[k] (List.getElem_mem hlt)
      rw [hq] at hc
      have HC := Lib.hid hc
      have HAT : Hid (q = true → idxS p l = k) := fun h1 => idxS_at (p := p) (l := l) k hlt (fun j hj => HJ.out j (by omega) hj) (by rw [hq]; exact h1)
      have HNX : Hid (q = false → ∀ j (hj : j < l.length), j < k + 1 → p l[j] = false) := fun hh j hj hjk => by
        by_cases hjk2 : j = k
        · subst hjk2; rw [hq]; exact hh
        · exact HJ.out j hj (by omega)
      clear HJ HF hc hq
      have klt : (k : Int) < l.length := by omega
      generalize l[k] = r at *
      obtain ⟨r1, r2, r3, r4, r5, r6, r7⟩ := r
      simp only at c0 c1 c2 c3 c4 c5 c6
      go_wp2_with fail
      refine HC.out.mono ?_
      rintro e w1 ⟨rfl, hb1⟩
      have hb2 := hb.trans (hb1.mono hb.size)
      clear HC
      cases q with
      | true =>
        go_wp2
        go_ret
        exact ⟨ret_int (by rw [HAT.out (by first | rfl | trivial)]), hb2⟩
      | false =>
        go_wp2
        go_roundw
        case rel => exact ⟨k + 1, by omega, by go_num, HNX.out (by first | rfl | trivial), hb2⟩
        case measure => simp [intOf]; omega
    · have HK := Lib.hid hge
      go_wp2
      go_ret
      exact ⟨ret_int (by rw [idxS_none (fun x hx => by obtain ⟨j, hj, rfl⟩ := List.getElem_of_mem hx; exact HJ.out j hj (by have := HK.out; omega))]), hb⟩

end Go.Proofs.Ytckonmlcgfbojaa

namespace Go.Proofs.Ytckonmlcgfbojaa
open Go.RowKit

set_option maxRecDepth 100000 in
set_option maxHeartbeats 2000000 in
theorem idxRg_any (v : Value) (l : List Rg) (fn : Nat) (caps : Array Value) (p : Rg → Bool) (w : World) (h : SlR w v l) (hf : Asks Try.prog w fn caps aRg p l) :
    Calls Try.prog 102 #[v, .func (.func fn) #[] caps] w fun e w' => e = .returned (.int .i64 (idxS p l)) ∧ Below w.heap.size w w' := by
  obtain ⟨ao, cap, rfl, hcap, hm⟩ := Sl.shape h
  have HF := Lib.hid hf.ask
  have he := hf.en
  clear hf
  go_enter Try.func102, Try.ntmps102
  go_wp2
  go_loopw [8] (fun vk wr => ∃ k : Nat, k ≤ l.length ∧ vk = .int .i64 k ∧ (∀ j (hj : j < l.length), j < k → p l[j] = false) ∧ Below w.heap.size w wr) (fun vk _ => l.length - (intOf vk).toNat)
  case atStart => exact ⟨0, Nat.zero_le _, rfl, fun j _ hj => by omega, Below.refl _ _⟩
  case round =>
    obtain ⟨k, hk, rfl, hj, hb⟩ := hrel
    have HJ := Lib.hid hj
    clear hj
    rcases Nat.lt_or_ge k l.length with hlt | hge
    · obtain ⟨b, off, rfl, hbl, c0, c1⟩ := h.pair hb (Nat.le_refl _) k hlt
      obtain ⟨q, hq⟩ : ∃ q, p l[k] = q := ⟨_, rfl⟩
      have hc := HF.out wr hb l[k] (List.getElem_mem hlt)
      rw [hq] at hc
      have HC := Lib.hid hc
      have HAT : Hid (q = true → idxS p l = k) := fun h1 => idxS_at (p := p) (l := l) k hlt (fun j hj => HJ.out j (by omega) hj) (by rw [hq]; exact h1)
      have HNX : Hid (q = false → ∀ j (hj : j < l.length), j < k + 1 → p l[j] = false) := fun hh j hj hjk => by
        by_cases hjk2 : j = k
        · subst hjk2; rw [hq]; exact hh
        · exact HJ.out j hj (by omega)
      clear HJ HF hc hq
      have klt : (k : Int) < l.length := by omega
      generalize l[k] = r at *
      obtain ⟨r1, r2⟩ := r
      simp only at c0 c1
      go_wp2_with fail
      refine HC.out.mono ?_
      rintro e w1 ⟨rfl, hb1⟩
      have hb2 := hb.trans (hb1.mono hb.size)
      clear HC
      cases q with
      | true =>
        go_wp2
        go_ret
        exact ⟨ret_int (by rw [HAT.out (by first | rfl | trivial)]), hb2⟩
      | false =>
        go_wp2
        go_roundw
        case rel => exact ⟨k + 1, by omega, by go_num, HNX.out (by first | rfl | trivial), hb2⟩
        case measure => simp [intOf]; omega
    · have HK := Lib.hid hge
      go_wp2
      go_ret
      exact ⟨ret_int (by rw [idxS_none (fun x hx => by obtain ⟨j, hj, rfl⟩ := List.getElem_of_mem hx; exact HJ.out j hj (by have := HK.out; omega))]), hb⟩

set_option maxRecDepth 100000 in
set_option maxHeartbeats 2000000 in
theorem idxI_any (v : Value) (l : List Int) (fn : Nat) (caps : Array Value) (p : Int → Bool) (w : World) (h : SlI w v l) (hf : Asks Try.prog w fn caps (fun n => .int .i64 n) p l) :
    Calls Try.prog 96 #[v, .func (.func fn) #[] caps] w fun e w' => e = .returned (.int .i64 (idxS p l)) ∧ Below w.heap.size w w' := by
  obtain ⟨ao, cap, rfl, hcap, hm⟩ := Sl.shape h
  have HF := Lib.hid hf.ask
  have he := hf.en
  clear hf
  go_enter Try.func96, Try.ntmps96
  go_wp2
  go_loopw [8] (fun vk wr => ∃ k : Nat, k ≤ l.length ∧ vk = .int .i64 k ∧ (∀ j (hj : j < l.length), j < k → p l[j] = false) ∧ Below w.heap.size w wr) (fun vk _ => l.length - (intOf vk).toNat)
  case atStart => exact ⟨0, Nat.zero_le _, rfl, fun j _ hj => by omega, Below.refl _ _⟩
  case round =>
    obtain ⟨k, hk, rfl, hj, hb⟩ := hrel
    have HJ := Lib.hid hj
    clear hj
    rcases Nat.lt_or_ge k l.length with hlt | hge
    · obtain ⟨b, off, rfl, hbl, c0⟩ := h.cell hb (Nat.le_refl _) k hlt
      obtain ⟨q, hq⟩ : ∃ q, p l[k] = q := ⟨_, rfl⟩
      have hc := HF.out wr hb l[k] (List.getElem_mem hlt)
      rw [hq] at hc
      have HC := Lib.hid hc
      have HAT : Hid (q = true → idxS p l = k) := fun h1 => idxS_at (p := p) (l := l) k hlt (fun j hj => HJ.out j (by omega) hj) (by rw [hq]; exact h1)
      have HNX : Hid (q = false → ∀ j (hj : j < l.length), j < k + 1 → p l[j] = false) := fun hh j hj hjk => by
        by_cases hjk2 : j = k
        · subst hjk2; rw [hq]; exact hh
        · exact HJ.out j hj (by omega)
      clear HJ HF hc hq
      have klt : (k : Int) < l.length := by omega
      generalize l[k] = r at *
      go_wp2_with fail
      refine HC.out.mono ?_
      rintro e w1 ⟨rfl, hb1⟩
      have hb2 := hb.trans (hb1.mono hb.size)
      clear HC
      cases q with
      | true =>
        go_wp2
        go_ret
        exact ⟨ret_int (by rw [HAT.out (by first | rfl | trivial)]), hb2⟩
      | false =>
        go_wp2
        go_roundw
        case rel => exact ⟨k + 1, by omega, by go_num, HNX.out (by first | rfl | trivial), hb2⟩
        case measure => simp [intOf]; omega
    · have HK := Lib.hid hge
      go_wp2
      go_ret
      exact ⟨ret_int (by rw [idxS_none (fun x hx => by obtain ⟨j, hj, rfl⟩ := List.getElem_of_mem hx; exact HJ.out j hj (by have := HK.out; omega))]), hb⟩

set_option maxRecDepth 100000 in
set_option maxHeartbeats 2000000 in
theorem idxRs_any (v : Value) (l : List Sv) (fn : Nat) (caps : Array Value) (p : Sv → Bool) (w : World) (h : SlT cSv 1 w v l) (hf : Asks Try.prog w fn caps Sv.v p l) :
    Calls Try.prog 97 #[v, .func (.func fn) #[] caps] w fun e w' => e = .returned (.int .i64 (idxS p l)) ∧ Below w.heap.size w w' := by
  obtain ⟨ao, cap, rfl, hcap, hm⟩ := Sl.shape h
  have HF := Lib.hid hf.ask
  have he := hf.en
  clear hf
  go_enter Try.func97, Try.ntmps97
  go_wp2
  go_loopw [8] (fun vk wr => ∃ k : Nat, k ≤ l.length ∧ vk = .int .i64 k ∧ (∀ j (hj : j < l.length), j < k → p l[j] = false) ∧ Below w.heap.size w wr) (fun vk _ => l.length - (intOf vk).toNat)
  case atStart => exact ⟨0, Nat.zero_le _, rfl, fun j _ hj => by omega, Below.refl _ _⟩
  case round =>
    obtain ⟨k, hk, rfl, hj, hb⟩ := hrel
    have HJ := Lib.hid hj
    clear hj
    rcases Nat.lt_or_ge k l.length with hlt | hge
    · obtain ⟨b, off, rfl, hbl, c0⟩ := SlT.sv h hb (Nat.le_refl _) k hlt
      obtain ⟨q, hq⟩ : ∃ q, p l[k] = q := ⟨_, rfl⟩
      have hc := HF.out wr hb l[k] (List.getElem_mem hlt)
      rw [hq] at hc
      have HC := Lib.hid hc
      have HAT : Hid (q = true → idxS p l = k) := fun h1 => idxS_at (p := p) (l := l) k hlt (fun j hj => HJ.out j (by omega) hj) (by rw [hq]; exact h1)
      have HNX : Hid (q = false → ∀ j (hj : j < l.length), j < k + 1 → p l[j] = false) := fun hh j hj hjk => by
        by_cases hjk2 : j = k
        · subst hjk2; rw [hq]; exact hh
        · exact HJ.out j hj (by omega)
      clear HJ HF hc hq
      have klt : (k : Int) < l.length := by omega
      generalize l[k] = r at *
      go_wp2_with fail
      refine HC.out.mono ?_
      rintro e w1 ⟨rfl, hb1⟩
      have hb2 := hb.trans (hb1.mono hb.size)
      clear HC
      cases q with
      | true =>
        go_wp2
        go_ret
        exact ⟨ret_int (by rw [HAT.out (by first | rfl | trivial)]), hb2⟩
      | false =>
        go_wp2
        go_roundw
        case rel => exact ⟨k + 1, by omega, by go_num, HNX.out (by first | rfl | trivial), hb2⟩
        case measure => simp [intOf]; omega
    · have HK := Lib.hid hge
      go_wp2
      go_ret
      exact ⟨ret_int (by rw [idxS_none (fun x hx => by obtain ⟨j, hj, rfl⟩ := List.getElem_of_mem hx; exact HJ.out j hj (by have := HK.out; omega))]), hb⟩

set_option maxHeartbeats 400000 in
theorem hasWn_any (v : Value) (l : List Wn) (fn : Nat) (caps : Array Value) (p : Wn → Bool) (w : World) (h : SlWn w v l) (hf : Asks Try.prog w fn caps aWn p l) :
    Calls Try.prog 40 #[v, .func (.func fn) #[] caps] w fun e w' => e = .returned (.bool (l.any p)) ∧ Below w.heap.size w w' := by
  have HA := Lib.hid (idxS_any p l)
  have hge := idxS_ge p l
  have HI := Lib.hid (idxWn_any v l fn caps p w h hf)
  obtain ⟨ao, cap, rfl, hcap, hm⟩ := Sl.shape h
  clear hf h
  generalize idxS p l = q at *
  go_enter Try.func40, Try.ntmps40
  go_wp2_with fail
  refine HI.out.mono ?_
  rintro e w1 ⟨rfl, hb1⟩
  go_wp2
  go_ret
  exact ⟨ret_bool HA.out, hb1⟩

set_option maxHeartbeats 400000 in
theorem hasLs_any (v : Value) (l : List LsC) (fn : Nat) (caps : Array Value) (p : LsC → Bool) (w : World) (h : SlT cLs 7 w v l) (hf : Asks Try.prog w fn caps aLs p l) :
    Calls Try.prog 38 #[v, .func (.func fn) #[] caps] w fun e w' => e = .returned (.bool (l.any p)) ∧ Below w.heap.size w w' := by
  have HA := Lib.hid (idxS_any p l)
  have hge := idxS_ge p l
  have HI := Lib.hid (idxLs_any v l fn caps p w h hf)
  obtain ⟨ao, cap, rfl, hcap, hm⟩ := Sl.shape h
  clear hf h
  generalize idxS p l = q at *
  go_enter Try.func38, Try.ntmps38
  go_wp2_with fail
  refine HI.out.mono ?_
  rintro e w1 ⟨rfl, hb1⟩
  go_wp2
  go_ret
  exact ⟨ret_bool HA.out, hb1⟩

set_option maxHeartbeats 400000 in
theorem hasRg_any (v : Value) (l : List Rg) (fn : Nat) (caps : Array Value) (p : Rg → Bool) (w : World) (h : SlR w v l) (hf : Asks Try.prog w fn caps aRg p l) :
    Calls Try.prog 93 #[v, .func (.func fn) #[] caps] w fun e w' => e = .returned (.bool (l.any p)) ∧ Below w.heap.size w w' := by
  have HA := Lib.hid (idxS_any p l)
  have hge := idxS_ge p l
  have HI := Lib.hid (idxRg_any v l fn caps p w h hf)
  obtain ⟨ao, cap, rfl, hcap, hm⟩ := Sl.shape h
  clear hf h
  generalize idxS p l = q at *
  go_enter Try.func93, Try.ntmps93
  go_wp2_with fail
  refine HI.out.mono ?_
  rintro e w1 ⟨rfl, hb1⟩
  go_wp2
  go_ret
  exact ⟨ret_bool HA.out, hb1⟩

set_option maxHeartbeats 400000 in
theorem hasI_any (v : Value) (l : List Int) (fn : Nat) (caps : Array Value) (p : Int → Bool) (w : World) (h : SlI w v l) (hf : Asks Try.prog w fn caps (fun n => .int .i64 n) p l) :
    Calls Try.prog 66 #[v, .func (.func fn) #[] caps] w fun e w' => e = .returned (.bool (l.any p)) ∧ Below w.heap.size w w' := by
  have HA := Lib.hid (idxS_any p l)
  have hge := idxS_ge p l
  have HI := Lib.hid (idxI_any v l fn caps p w h hf)
  obtain ⟨ao, cap, rfl, hcap, hm⟩ := Sl.shape h
  clear hf h
  generalize idxS p l = q at *
  go_enter Try.func66, Try.ntmps66
  go_wp2_with fail
  refine HI.out.mono ?_
  rintro e w1 ⟨rfl, hb1⟩
  go_wp2
  go_ret
  exact ⟨ret_bool HA.out, hb1⟩

set_option maxHeartbeats 400000 in
theorem hasRs_any (v : Value) (l : List Sv) (fn : Nat) (caps : Array Value) (p : Sv → Bool) (w : World) (h : SlT cSv 1 w v l) (hf : Asks Try.prog w fn caps Sv.v p l) :
    Calls Try.prog 68 #[v, .func (.func fn) #[] caps] w fun e w' => e = .returned (.bool (l.any p)) ∧ Below w.heap.size w w' := by
  have HA := Lib.hid (idxS_any p l)
  have hge := idxS_ge p l
  have HI := Lib.hid (idxRs_any v l fn caps p w h hf)
  obtain ⟨ao, cap, rfl, hcap, hm⟩ := Sl.shape h
  clear hf h
  generalize idxS p l = q at *
  go_enter Try.func68, Try.ntmps68
  go_wp2_with fail
  refine HI.out.mono ?_
  rintro e w1 ⟨rfl, hb1⟩
  go_wp2
  go_ret
  exact ⟨ret_bool HA.out, hb1⟩

end Go.Proofs.Ytckonmlcgfbojaa

namespace Go.Proofs.Ytckonmlcgfbojaa
open Go.RowKit

theorem key_eq (a b : ByteArray) : (a.toList == b.toList) = decide (a = b) := by
  rw [Bool.eq_iff_iff, beq_iff_eq, decide_eq_true_iff, ByteArray.toList_eq, ByteArray.toList_eq]
  exact ⟨fun h => ByteArray.ext (Array.toList_inj.1 h), fun h => by rw [h]⟩

theorem counter1_any (c : Ct) (b : Nat) (key : ByteArray) (w : World) (hc : w.cell? ⟨b, 0, none⟩ = some (.string key)) (hb : b < w.heap.size) :
    Calls Try.prog 72 #[aCt c, .pointer (some ⟨b, 0, none⟩)] w fun e w' => e = .returned (.bool (decide (c.key = key))) ∧ Below w.heap.size w w' := by
  have HK := Lib.hid (key_eq c.key key)
  obtain ⟨c1, c2, c3, c4, c5, c6, c7⟩ := c
  go_enter Try.func72, Try.ntmps72
  go_wp2
  go_ret
  exact ⟨ret_bool HK.out, (Below.refl _ _).alloc (Nat.le_refl _) _⟩

theorem Try.enCounter1 (args : Array Value) (W : World) : (callFunc 72 args).run Try.prog W = .ok (.enter 72 args) W := by kernel_rfl
theorem Try.enAt1 (args : Array Value) (W : World) : (callFunc 85 args).run Try.prog W = .ok (.enter 85 args) W := by kernel_rfl

theorem asksCt {w : World} {b : Nat} {key : ByteArray} (hc : w.cell? ⟨b, 0, none⟩ = some (.string key)) (l : List Ct) : Asks Try.prog w 72 #[.pointer (some ⟨b, 0, none⟩)] aCt (fun c => decide (c.key = key)) l := by
  have hb : b < w.heap.size := World.block_lt_of_cell? w _ hc
  exact ⟨Try.enCounter1, fun W hW x _ => counter1_any x b key W (held_below hc hW hb) (Nat.lt_of_lt_of_le hb hW.size)⟩

/-- Where a counter is. -/
def ctIx (l : List Ct) (key : ByteArray) : Int := idxS (fun c => decide (c.key = key)) l

set_option maxHeartbeats 1000000 in
theorem counter_any (x : BkC) (l : List Ct) (key : ByteArray) (w : World) (h : SlCt w x.c.v l) :
    Calls Try.prog 28 #[aBk x, .string key] w fun e w' => e = .returned (.int .i64 (ctIx l key)) ∧ Below w.heap.size w w' := by
  obtain ⟨sc, sf, sl, sb⟩ := x
  have hb1 : Below w.heap.size w ((w.alloc (.cells #[sc.v, sf.v, sl.v, sb.v] 32)).alloc (.cells #[.string key] 9)) := ((Below.refl _ _).alloc (Nat.le_refl _) _).alloc (by simp) _
  have HS := Lib.hid (SlT.keep h hb1 (Nat.le_refl _))
  have HC : Hid (((w.alloc (.cells #[sc.v, sf.v, sl.v, sb.v] 32)).alloc (.cells #[.string key] 9)).cell? ⟨w.heap.size + 1, 0, none⟩ = some (.string key)) := by show _ = _; simp [go_sem]
  have HB := Lib.hid hb1
  clear h hb1
  go_enter Try.func28, Try.ntmps28
  go_wp2_with fail
  refine (idxCt_any _ l _ _ _ _ HS.out (asksCt HC.out l)).mono ?_
  rintro e w1 ⟨rfl, hb2⟩
  have hb3 := HB.out.trans (hb2.mono HB.out.size)
  clear HS HC HB hb2
  go_wp2
  go_ret
  exact ⟨rfl, hb3⟩

end Go.Proofs.Ytckonmlcgfbojaa

namespace Go.Proofs.Ytckonmlcgfbojaa
open Go.RowKit

/-- A letter that may be. -/
def okC (c : UInt8) : Bool := !decide (c.toNat < 32) && !decide (c.toNat = 127)
def textS (s : ByteArray) : Bool := s.data.toList.all okC && decide (s.size ≤ 40)

theorem all_take {α : Type} (p : α → Bool) (l : List α) (k : Nat) (hk : k < l.length) : (l.take (k + 1)).all p = ((l.take k).all p && p l[k]) := by
  rw [take_snoc l k hk, List.all_append]; simp
theorem all_stop {α : Type} (p : α → Bool) (l : List α) (k : Nat) (hk : k < l.length) (h : p l[k] = false) : l.all p = false := by
  rw [List.all_eq_false]; exact ⟨l[k], List.getElem_mem hk, by rw [h]; simp⟩

set_option maxHeartbeats 1000000 in
theorem text_any (s : ByteArray) (w : World) (hs : s.size ≤ maxLen) :
    Calls Try.prog 70 #[.string s] w fun e w' => e = .returned (.bool (textS s)) ∧ w = w' := by
  unfold maxLen at hs
  go_enter Try.func70, Try.ntmps70
  go_wp2
  go_loop [6] (fun vk => ∃ k : Nat, k ≤ s.size ∧ vk = .int .i64 k ∧ (s.data.toList.take k).all okC = true) (fun vk => s.size - (intOf vk).toNat)
  case atStart => exact ⟨0, Nat.zero_le _, rfl, rfl⟩
  case round =>
    obtain ⟨k, hk, rfl, hall⟩ := hrel
    have HA := Lib.hid hall
    clear hall
    by_cases hlt : k < s.size
    · have hl : k < s.data.toList.length := by simpa using hlt
      have HT := Lib.hid (all_take okC s.data.toList k hl)
      have HST := Lib.hid (all_stop okC s.data.toList k hl)
      have e0 : s.data.toList[k] = s[k] := by rfl
      rw [e0] at HT HST
      clear e0
      by_cases h1 : s[k].toNat < 32
      · have HF : Hid (textS s = false) := by show _ = _; unfold textS; rw [HST.out (by unfold okC; simp [h1])]; rfl
        clear HT HST
        have g1 : (s[k].toNat : Int) < 32 := by omega
        go_wp2
        go_ret
        exact ⟨ret_bool HF.out.symm, rfl⟩
      · by_cases h2 : s[k].toNat = 127
        · have HF : Hid (textS s = false) := by show _ = _; unfold textS; rw [HST.out (by unfold okC; simp [h2])]; rfl
          clear HT HST
          have g1 : decide ((s[k].toNat : Int) < 32) = false := by simp; omega
          have g2 : ((s[k].toNat : Int) == 127) = true := by simp; omega
          go_wp2
          go_ret
          exact ⟨ret_bool HF.out.symm, rfl⟩
        · have HN : Hid ((s.data.toList.take (k + 1)).all okC = true) := by show _ = _; rw [HT.out, HA.out]; unfold okC; simp [h1, h2]
          clear HT HST
          have g1 : decide ((s[k].toNat : Int) < 32) = false := by simp; omega
          have g2 : ((s[k].toNat : Int) == 127) = false := by simp; omega
          go_wp2
          go_round
          case rel => exact ⟨k + 1, by omega, by go_num, HN.out⟩
          case measure => simp [intOf]; omega
    · have HK := Lib.hid hlt
      have HF : Hid (textS s = decide (s.size ≤ 40)) := by
        show _ = _
        have := HA.out
        rw [List.take_of_length_le (by simp; omega)] at this
        unfold textS; rw [this]; simp
      go_wp2
      go_ret
      exact ⟨ret_bool (by rw [HF.out]; simp; omega), rfl⟩

theorem lwithin_any (n a b : Int) (w : World) : Calls Try.prog 29 #[.int .i64 n, .int .i64 a, .int .i64 b] w fun e w' => e = .returned (.bool (decide (a ≤ n) && decide (n ≤ b))) ∧ w = w' := by
  by_cases h1 : a ≤ n
  · go_enter Try.func29, Try.ntmps29
    go_wp2
    go_ret
    exact ⟨by simp [h1], rfl⟩
  · have d : decide (a ≤ n) = false := by simpa using h1
    go_enter Try.func29, Try.ntmps29
    go_wp2
    go_ret
    exact ⟨by simp, rfl⟩

end Go.Proofs.Ytckonmlcgfbojaa

namespace Go.Proofs.Ytckonmlcgfbojaa
open Go.RowKit

/-- A counter that may be. -/
def mayS (c : Ct) : Bool := !c.key.toList.isEmpty && (textS c.key && ((decide (0 ≤ c.coll) && decide (c.coll ≤ 2)) && (decide (-1099511627776 ≤ c.lo) && (decide (c.lo ≤ c.start) && (decide (c.start ≤ c.hi) && decide (c.hi ≤ 1099511627776))))))

set_option maxHeartbeats 2000000 in
theorem may_any (c : Ct) (w : World) (hs : c.key.size ≤ maxLen) :
    Calls Try.prog 27 #[aCt c] w fun e w' => e = .returned (.bool (mayS c)) ∧ Below w.heap.size w w' := by
  have HP : Hid (mayS c = (!c.key.toList.isEmpty && (textS c.key && ((decide (0 ≤ c.coll) && decide (c.coll ≤ 2)) && (decide (-1099511627776 ≤ c.lo) && (decide (c.lo ≤ c.start) && (decide (c.start ≤ c.hi) && decide (c.hi ≤ 1099511627776)))))))) := rfl
  generalize mayS c = res at *
  obtain ⟨c1, c2, c3, c4, c5, c6, c7⟩ := c
  simp only at hs
  go_enter Try.func27, Try.ntmps27
  go_wp2_with (first
    | (go_at_call 70; refine (text_any _ _ hs).mono ?_; rintro e w1 ⟨rfl, rfl⟩)
    | (go_at_call 29; refine (lwithin_any _ _ _ _).mono ?_; rintro e w1 ⟨rfl, rfl⟩))
  all_goals go_ret
  all_goals refine ⟨ret_bool ?_, (Below.refl _ _).alloc (Nat.le_refl _) _⟩
  all_goals rw [HP.out]
  all_goals first
    | (simp [*]; done)
    | (simp [*]; omega)

end Go.Proofs.Ytckonmlcgfbojaa
