/- slices.IndexFunc, slices.ContainsFunc, whatever function is handed in. -/
import Derived.Test.YtckonmlcgfbojaaLRg
namespace Go.Proofs.Ytckonmlcgfbojaa
open Go.RowKit

/-- Told of each thing of a list, behind a world: the function answers p, and turns nothing that was there. -/
structure Asks {α : Type} (P : Program) (w : World) (fn : Nat) (caps : Array Value) (enc : α → Value) (p : α → Bool) (l : List α) : Prop where
  en : ∀ (args : Array Value) (W : World), (callFunc fn args).run P W = .ok (.enter fn args) W
  ask : ∀ W, Below w.heap.size w W → ∀ x ∈ l, Calls P fn (#[enc x] ++ caps) W fun e W' => e = .returned (.bool (p x)) ∧ Below W.heap.size W W'

abbrev aRg (r : Rg) : Value := .agg #[.int .i64 r.1, .int .i64 r.2]
def cSv (s : Sv) : List Value := [s.v]
theorem cSv_len (s : Sv) : (cSv s).length = 1 := rfl
theorem cSv_one (c : Sv) : ∀ u ∈ cSv c, u.oneCell' = true := by intro u hu; simp [cSv] at hu; subst hu; rfl
theorem SlT.sv {w wr : World} {l : List Sv} {ao : Option Addr} {cap B : Nat} (h : SlT cSv 1 w (.slice ao l.length cap) l) (hb : Below B w wr) (hB : w.heap.size ≤ B) (k : Nat) (hk : k < l.length) :
    ∃ b off, ao = some ⟨b, off, none⟩ ∧ b < w.heap.size ∧ wr.cell? ⟨b, off + k, none⟩ = some l[k].v := by
  obtain ⟨b, off, h1, h2, h3⟩ := SlT.at h cSv_len (by omega) hb hB k hk
  have := h3 0 _ rfl
  rw [Nat.mul_one, Nat.add_zero] at this
  exact ⟨b, off, h1, h2, this⟩

set_option maxRecDepth 100000 in
set_option maxHeartbeats 2000000 in
theorem idxCt_any (v : Value) (l : List Ct) (fn : Nat) (caps : Array Value) (p : Ct → Bool) (w : World) (h : SlCt w v l) (hf : Asks Try.prog w fn caps aCt p l) :
    Calls Try.prog 71 #[v, .func (.func fn) #[] caps] w fun e w' => e = .returned (.int .i64 (idxS p l)) ∧ Below w.heap.size w w' := by
  obtain ⟨ao, cap, rfl, hcap, hm⟩ := Sl.shape h
  have HF := Lib.hid hf.ask
  have he := hf.en
  clear hf
  go_enter Try.func71, Try.ntmps71
  go_wp2
  go_loopw [8] (fun vk wr => ∃ k : Nat, k ≤ l.length ∧ vk = .int .i64 k ∧ (∀ j (hj : j < l.length), j < k → p l[j] = false) ∧ Below w.heap.size w wr) (fun vk _ => l.length - (intOf vk).toNat)
  case atStart => exact ⟨0, Nat.zero_le _, rfl, fun j _ hj => by omega, Below.refl _ _⟩
  case round =>
    obtain ⟨k, hk, rfl, hj, hb⟩ := hrel
    have HJ := Lib.hid hj
    clear hj
    rcases Nat.lt_or_ge k l.length with hlt | hge
    · obtain ⟨b, off, rfl, hbl, c0, c1, c2, c3, c4, c5, c6⟩ := SlT.ct h hb (Nat.le_refl _) k hlt
      obtain ⟨q, hq⟩ : ∃ q, p l[k] = q := ⟨_, rfl⟩
      have hc := HF.out wr hb l[k] (List.getElem_mem hlt)
      rw [hq] at hc
      have HC := Lib.hid hc
      have HAT : Hid (q = true → idxS p l = k) := fun h1 => idxS_at (p := p) (l := l) k hlt (fun j hj => HJ.out j (by omega) hj) (by rw [hq]; exact h1)
      have HNX : Hid (q = false → ∀ j (hj : j < l.length), j < k + 1 → p l[j] = false) := fun hh j hj hjk => by
        by_cases hjk2 : j = k
        · subst hjk2; rw [hq]; exact hh
        · exact HJ.out j hj (by omega)
      clear HJ HF hc hq
      have klt : (k : Int) < l.length := by omega
      generalize l[k] = r at *
      obtain ⟨r1, r2, r3, r4, r5, r6, r7⟩ := r
      simp only at c0 c1 c2 c3 c4 c5 c6
      go_wp2_with fail
      refine HC.out.mono ?_
      rintro e w1 ⟨rfl, hb1⟩
      have hb2 := hb.trans (hb1.mono hb.size)
      clear HC
      cases q with
      | true =>
        go_wp2
        go_ret
        exact ⟨ret_int (by rw [HAT.out (by first | rfl | trivial)]), hb2⟩
      | false =>
        go_wp2
        go_roundw
        case rel => exact ⟨k + 1, by omega, by go_num, HNX.out (by first | rfl | trivial), hb2⟩
        case measure => simp [intOf]; omega
    · have HK := Lib.hid hge
      go_wp2
      go_ret
      exact ⟨ret_int (by rw [idxS_none (fun x hx => by obtain ⟨j, hj, rfl⟩ := List.getElem_of_mem hx; exact HJ.out j hj (by have := HK.out; omega))]), hb⟩

set_option maxRecDepth 100000 in
set_option maxHeartbeats 2000000 in
theorem idxSc_any (v : Value) (l : List Sc) (fn : Nat) (caps : Array Value) (p : Sc → Bool) (w : World) (h : SlSc w v l) (hf : Asks Try.prog w fn caps aSc p l) :
    Calls Try.prog 51 #[v, .func (.func fn) #[] caps] w fun e w' => e = .returned (.int .i64 (idxS p l)) ∧ Below w.heap.size w w' := by
  obtain ⟨ao, cap, rfl, hcap, hm⟩ := Sl.shape h
  have HF := Lib.hid hf.ask
  have he := hf.en
  clear hf
  go_enter Try.func51, Try.ntmps51
  go_wp2
  go_loopw [8] (fun vk wr => ∃ k : Nat, k ≤ l.length ∧ vk = .int .i64 k ∧ (∀ j (hj : j < l.length), j < k → p l[j] = false) ∧ Below w.heap.size w wr) (fun vk _ => l.length - (intOf vk).toNat)
  case atStart => exact ⟨0, Nat.zero_le _, rfl, fun j _ hj => by omega, Below.refl _ _⟩
  case round =>
    obtain ⟨k, hk, rfl, hj, hb⟩ := hrel
    have HJ := Lib.hid hj
    clear hj
    rcases Nat.lt_or_ge k l.length with hlt | hge
    · obtain ⟨b, off, rfl, hbl, c0, c1, c2, c3, c4⟩ := SlT.sc h hb (Nat.le_refl _) k hlt
      obtain ⟨q, hq⟩ : ∃ q, p l[k] = q := ⟨_, rfl⟩
      have hc := HF.out wr hb l[k] (List.getElem_mem hlt)
      rw [hq] at hc
      have HC := Lib.hid hc
      have HAT : Hid (q = true → idxS p l = k) := fun h1 => idxS_at (p := p) (l := l) k hlt (fun j hj => HJ.out j (by omega) hj) (by rw [hq]; exact h1)
      have HNX : Hid (q = false → ∀ j (hj : j < l.length), j < k + 1 → p l[j] = false) := fun hh j hj hjk => by
        by_cases hjk2 : j = k
        · subst hjk2; rw [hq]; exact hh
        · exact HJ.out j hj (by omega)
      clear HJ HF hc hq
      have klt : (k : Int) < l.length := by omega
      generalize l[k] = r at *
      obtain ⟨r1, r2, r3, r4, r5⟩ := r
      simp only at c0 c1 c2 c3 c4
      go_wp2_with fail
      refine HC.out.mono ?_
      rintro e w1 ⟨rfl, hb1⟩
      have hb2 := hb.trans (hb1.mono hb.size)
      clear HC
      cases q with
      | true =>
        go_wp2
        go_ret
        exact ⟨ret_int (by rw [HAT.out (by first | rfl | trivial)]), hb2⟩
      | false =>
        go_wp2
        go_roundw
        case rel => exact ⟨k + 1, by omega, by go_num, HNX.out (by first | rfl | trivial), hb2⟩
        case measure => simp [intOf]; omega
    · have HK := Lib.hid hge
      go_wp2
      go_ret
      exact ⟨ret_int (by rw [idxS_none (fun x hx => by obtain ⟨j, hj, rfl⟩ := List.getElem_of_mem hx; exact HJ.out j hj (by have := HK.out; omega))]), hb⟩

set_option maxRecDepth 100000 in
set_option maxHeartbeats 2000000 in
theorem idxWn_any (v : Value) (l : List Wn) (fn : Nat) (caps : Array Value) (p : Wn → Bool) (w : World) (h : SlWn w v l) (hf : Asks Try.prog w fn caps aWn p l) :
    Calls Try.prog 80 #[v, .func (.func fn) #[] caps] w fun e w' => e = .returned (.int .i64 (idxS p l)) ∧ Below w.heap.size w w' := by
  obtain ⟨ao, cap, rfl, hcap, hm⟩ := Sl.shape h
  have HF := Lib.hid hf.ask
  have he := hf.en
  clear hf
  go_enter Try.func80, Try.ntmps80
  go_wp2
  go_loopw [8] (fun vk wr => ∃ k : Nat, k ≤ l.length ∧ vk = .int .i64 k ∧ (∀ j (hj : j < l.length), j < k → p l[j] = false) ∧ Below w.heap.size w wr) (fun vk _ => l.length - (intOf vk).toNat)
  case atStart => exact ⟨0, Nat.zero_le _, rfl, fun j _ hj => by omega, Below.refl _ _⟩
  case round =>
    obtain ⟨k, hk, rfl, hj, hb⟩ := hrel
    have HJ := Lib.hid hj
    clear hj
    rcases Nat.lt_or_ge k l.length with hlt | hge
    · obtain ⟨b, off, rfl, hbl, c0, c1, c2, c3⟩ := SlT.wn h hb (Nat.le_refl _) k hlt
      obtain ⟨q, hq⟩ : ∃ q, p l[k] = q := ⟨_, rfl⟩
      have hc := HF.out wr hb l[k] (List.getElem_mem hlt)
      rw [hq] at hc
      have HC := Lib.hid hc
      have HAT : Hid (q = true → idxS p l = k) := fun h1 => idxS_at (p := p) (l := l) k hlt (fun j hj => HJ.out j (by omega) hj) (by rw [hq]; exact h1)
      have HNX : Hid (q = false → ∀ j (hj : j < l.length), j < k + 1 → p l[j] = false) := fun hh j hj hjk => by
        by_cases hjk2 : j = k
        · subst hjk2; rw [hq]; exact hh
        · exact HJ.out j hj (by omega)
      clear HJ HF hc hq
      have klt : (k : Int) < l.length := by omega
      generalize l[k] = r at *
      obtain ⟨r1, r2, r3, r4⟩ := r
      simp only at c0 c1 c2 c3
      go_wp2_with fail
      refine HC.out.mono ?_
      rintro e w1 ⟨rfl, hb1⟩
      have hb2 := hb.trans (hb1.mono hb.size)
      clear HC
      cases q with
      | true =>
        go_wp2
        go_ret
        exact ⟨ret_int (by rw [HAT.out (by first | rfl | trivial)]), hb2⟩
      | false =>
        go_wp2
        go_roundw
        case rel => exact ⟨k + 1, by omega, by go_num, HNX.out (by first | rfl | trivial), hb2⟩
        case measure => simp [intOf]; omega
    · have HK := Lib.hid hge
      go_wp2
      go_ret
      exact ⟨ret_int (by rw [idxS_none (fun x hx => by obtain ⟨j, hj, rfl⟩ := List.getElem_of_mem hx; exact HJ.out j hj (by have := HK.out; omega))]), hb⟩

set_option maxRecDepth 100000 in
set_option maxHeartbeats 2000000 in
theorem idxLs_any (v : Value) (l : List LsC) (fn : Nat) (caps : Array Value) (p : LsC → Bool) (w : World) (h : SlT cLs 7 w v l) (hf : Asks Try.prog w fn caps aLs p l) :
    Calls Try.prog 79 #[v, .func (.func fn) #[] caps] w fun e w' => e = .returned (.int .i64 (idxS p l)) ∧ Below w.heap.size w w' := by
  obtain ⟨ao, cap, rfl, hcap, hm⟩ := Sl.shape h
  have HF := Lib.hid hf.ask
  have he := hf.en
  clear hf
  go_enter Try.func79, Try.ntmps79
  go_wp2
  go_loopw [8] (fun vk wr => ∃ k : Nat, k ≤ l.length ∧ vk = .int .i64 k ∧ (∀ j (hj : j < l.length), j < k → p l[j] = false) ∧ Below w.heap.size w wr) (fun vk _ => l.length - (intOf vk).toNat)
  case atStart => exact ⟨0, Nat.zero_le _, rfl, fun j _ hj => by omega, Below.refl _ _⟩
  case round =>
    obtain ⟨k, hk, rfl, hj, hb⟩ := hrel
    have HJ := Lib.hid hj
    clear hj
    rcases Nat.lt_or_ge k l.length with hlt | hge
    · obtain ⟨b, off, rfl, hbl, c0, c1, c2, c3, c4, c5, c6⟩ := SlT.ls h hb (Nat.le_refl _) k hlt
      obtain ⟨q, hq⟩ : ∃ q, p l[k] = q := ⟨_, rfl⟩
      have hc := HF.out wr hb l[k] (List.getElem_mem hlt)
      rw [hq] at hc
      have HC := Lib.hid hc
      have HAT : Hid (q = true → idxS p l = k) := fun h1 => idxS_at (p := p) (l := l) k hlt (fun j hj => HJ.out j (by omega) hj) (by rw [hq]; exact h1)
      have HNX : Hid (q = false → ∀ j (hj : j < l.length), j < k + 1 → p l[j] = false) := fun hh j hj hjk => by
        by_cases hjk2 : j = k
        · subst hjk2; rw [hq]; exact hh
        · exact HJ.out j hj (by omega)
      clear HJ HF hc hq
      have klt : (k : Int) < l.length := by omega
      generalize l[k] = r at *
      obtain ⟨r1, r2, r3, r4, r5, r6, r7⟩ := r
      simp only at c0 c1 c2 c3 c4 c5 c6
      go_wp2_with fail
      refine HC.out.mono ?_
      rintro e w1 ⟨rfl, hb1⟩
      have hb2 := hb.trans (hb1.mono hb.size)
      clear HC
      cases q with
      | true =>
        go_wp2
        go_ret
        exact ⟨ret_int (by rw [HAT.out (by first | rfl | trivial)]), hb2⟩
      | false =>
        go_wp2
        go_roundw
        case rel => exact ⟨k + 1, by omega, by go_num, HNX.out (by first | rfl | trivial), hb2⟩
        case measure => simp [intOf]; omega
    · have HK := Lib.hid hge
      go_wp2
      go_ret
      exact ⟨ret_int (by rw [idxS_none (fun x hx => by obtain ⟨j, hj, rfl⟩ := List.getElem_of_mem hx; exact HJ.out j hj (by have := HK.out; omega))]), hb⟩

end Go.Proofs.Ytckonmlcgfbojaa
