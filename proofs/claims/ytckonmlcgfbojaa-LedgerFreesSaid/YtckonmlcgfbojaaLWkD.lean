/- The walks of the reference's Text, counter, place, rows, ints. -/
import Derived.Test.YtckonmlcgfbojaaLIx
namespace Go.Proofs.Ytckonmlcgfbojaa
open Go.RowKit

set_option maxHeartbeats 1000000 in
theorem rtext_any (s : ByteArray) (w : World) :
    Calls Try.prog 78 #[.string s] w fun e w' => e = .returned (.bool (textS s)) ∧ w = w' := by
  by_cases hs : s.size ≤ 40
  · have g0 : decide (40 < (s.size : Int)) = false := by simp; omega
    go_enter Try.func78, Try.ntmps78
    go_wp2
    go_loop [3] (fun vk => ∃ k : Nat, k ≤ s.size ∧ vk = .int .i64 k ∧ (s.data.toList.take k).all okC = true) (fun vk => s.size - (intOf vk).toNat)
    case atStart => exact ⟨0, Nat.zero_le _, rfl, rfl⟩
    case round =>
      obtain ⟨k, hk, rfl, hall⟩ := hrel
      have HA := Lib.hid hall
      clear hall
      by_cases hlt : k < s.size
      · have hl : k < s.data.toList.length := by simpa using hlt
        have HT := Lib.hid (all_take okC s.data.toList k hl)
        have HST := Lib.hid (all_stop okC s.data.toList k hl)
        have e0 : s.data.toList[k] = s[k] := by rfl
        rw [e0] at HT HST
        clear e0
        by_cases h1 : s[k].toNat < 32
        · have HF : Hid (textS s = false) := by show _ = _; unfold textS; rw [HST.out (by unfold okC; simp [h1])]; rfl
          clear HT HST
          have g1 : (s[k].toNat : Int) < 32 := by omega
          go_wp2
          go_ret
          exact ⟨ret_bool HF.out.symm, rfl⟩
        · by_cases h2 : s[k].toNat = 127
          · have HF : Hid (textS s = false) := by show _ = _; unfold textS; rw [HST.out (by unfold okC; simp [h2])]; rfl
            clear HT HST
            have g1 : decide ((s[k].toNat : Int) < 32) = false := by simp; omega
            have g2 : ((s[k].toNat : Int) == 127) = true := by simp; omega
            go_wp2
            go_ret
            exact ⟨ret_bool HF.out.symm, rfl⟩
          · have HN : Hid ((s.data.toList.take (k + 1)).all okC = true) := by show _ = _; rw [HT.out, HA.out]; unfold okC; simp [h1, h2]
            clear HT HST
            have g1 : decide ((s[k].toNat : Int) < 32) = false := by simp; omega
            have g2 : ((s[k].toNat : Int) == 127) = false := by simp; omega
            go_wp2
            go_round
            case rel => exact ⟨k + 1, by omega, by go_num, HN.out⟩
            case measure => simp [intOf]; omega
      · have HF : Hid (textS s = true) := by
          show _ = _
          have := HA.out
          rw [List.take_of_length_le (by simp; omega)] at this
          unfold textS; rw [this]; simp; omega
        go_wp2
        go_ret
        exact ⟨ret_bool HF.out.symm, rfl⟩
  · have HF : Hid (textS s = false) := by show _ = _; unfold textS; simp; intro _; omega
    have g0 : (40 : Int) < (s.size : Int) := by omega
    clear hs
    go_enter Try.func78, Try.ntmps78
    go_wp2
    go_ret
    exact ⟨ret_bool HF.out.symm, rfl⟩

set_option maxHeartbeats 2000000 in
theorem rmay_any (c : Ct) (w : World) :
    Calls Try.prog 32 #[aCt c] w fun e w' => e = .returned (.bool (mayS c)) ∧ Below w.heap.size w w' := by
  have HP : Hid (mayS c = (!c.key.toList.isEmpty && (textS c.key && ((decide (0 ≤ c.coll) && decide (c.coll ≤ 2)) && (decide (-1099511627776 ≤ c.lo) && (decide (c.lo ≤ c.start) && (decide (c.start ≤ c.hi) && decide (c.hi ≤ 1099511627776)))))))) := rfl
  generalize mayS c = res at *
  obtain ⟨c1, c2, c3, c4, c5, c6, c7⟩ := c
  go_enter Try.func32, Try.ntmps32
  go_wp2_with (go_at_call 78; refine (rtext_any _ _).mono ?_; rintro e w1 ⟨rfl, rfl⟩)
  all_goals go_ret
  all_goals refine ⟨ret_bool ?_, (Below.refl _ _).alloc (Nat.le_refl _) _⟩
  all_goals rw [HP.out]
  all_goals first
    | (simp [*]; done)
    | (simp [*]; omega)
    | (have g2 : c2 ≤ 2 := by omega
       simp [*]; done)
    | (have g2 : c2 ≤ 2 := by omega
       simp [*]; trace_state)

set_option maxRecDepth 100000 in
set_option maxHeartbeats 2000000 in
theorem place_any (x : BkC) (l : List Ct) (key : ByteArray) (w : World) (h : SlCt w x.c.v l) :
    Calls Try.prog 33 #[aBk x, .string key] w fun e w' => e = .returned (.int .i64 (ctIx l key)) ∧ Below w.heap.size w w' := by
  obtain ⟨⟨ao, n, cap⟩, sf, sl, sb⟩ := x
  obtain ⟨hn, hcap, hm⟩ := Sl.lens h
  simp only at h hn hcap hm
  subst hn
  have hb1 : Below w.heap.size w (w.alloc (.cells #[.slice ao l.length cap, sf.v, sl.v, sb.v] 32)) := (Below.refl _ _).alloc (Nat.le_refl _) _
  have HB := Lib.hid hb1
  clear hb1
  unfold ctIx
  change Calls Try.prog _ #[.agg #[.slice ao l.length cap, sf.v, sl.v, sb.v], .string key] w _
  go_enter Try.func33, Try.ntmps33
  go_wp2
  go_loop [5] (fun vk => ∃ k : Nat, k ≤ l.length ∧ vk = .int .i64 k ∧ (∀ j (hj : j < l.length), j < k → decide (l[j].key = key) = false)) (fun vk => l.length - (intOf vk).toNat)
  case atStart => exact ⟨0, Nat.zero_le _, rfl, fun j _ hj => by omega⟩
  case round =>
    obtain ⟨k, hk, rfl, hj⟩ := hrel
    have HJ := Lib.hid hj
    clear hj
    rcases Nat.lt_or_ge k l.length with hlt | hge
    · obtain ⟨b, off, rfl, hbl, c0, -⟩ := SlT.ct h HB.out (Nat.le_refl _) k hlt
      have HE := Lib.hid (key_eq l[k].key key)
      obtain ⟨q, hq⟩ : ∃ q, decide (l[k].key = key) = q := ⟨_, rfl⟩
      have HAT : Hid (q = true → idxS (fun c => decide (c.key = key)) l = k) := fun h1 => idxS_at (p := fun c => decide (c.key = key)) (l := l) k hlt (fun j hj => HJ.out j (by omega) hj) (by rw [hq]; exact h1)
      have HNX : Hid (q = false → ∀ j (hj : j < l.length), j < k + 1 → decide (l[j].key = key) = false) := fun hh j hj hjk => by
        by_cases hjk2 : j = k
        · subst hjk2; rw [hq]; exact hh
        · exact HJ.out j hj (by omega)
      rw [hq] at HE
      clear HJ hq
      have klt : (k : Int) < l.length := by omega
      generalize l[k].key = r at *
      cases q with
      | true =>
        have e1 := HE.out
        go_wp2
        go_ret
        exact ⟨ret_int (by rw [HAT.out (by first | rfl | trivial)]), HB.out⟩
      | false =>
        have e1 := HE.out
        go_wp2
        go_round
        case rel => exact ⟨k + 1, by omega, by go_num, HNX.out (by first | rfl | trivial)⟩
        case measure => simp [intOf]; omega
    · have HK := Lib.hid hge
      have e1 : decide (k < l.length) = false := by simpa using hge
      go_wp2
      go_ret
      exact ⟨ret_int (by rw [idxS_none (fun x hx => by obtain ⟨j, hj, rfl⟩ := List.getElem_of_mem hx; exact HJ.out j hj (by have := HK.out; omega))]), HB.out⟩

set_option maxHeartbeats 400000 in
theorem rows_any (v v' : Value) (l m : List Rg) (w : World) (h : SlR w v l) (h' : SlR w v' m) :
    Calls Try.prog 35 #[v, v'] w fun e w' => e = .returned (.bool (decide (l = m))) ∧ Below w.heap.size w w' := by
  obtain ⟨ao, cap, rfl, hcap, hm⟩ := Sl.shape h
  obtain ⟨ao', cap', rfl, hcap', hm'⟩ := Sl.shape h'
  by_cases hlen : l.length = m.length
  · rw [← hlen] at h' ⊢ hcap'
    have HL := Lib.hid hlen
    clear hlen
    go_enter Try.func35, Try.ntmps35
    go_wp2
    go_loopw [5] (fun i wr => ∃ k : Nat, k ≤ l.length ∧ i = .int .i64 k ∧ l.take k = m.take k ∧ Below w.heap.size w wr) (fun i _ => l.length - (intOf i).toNat)
    case atStart => exact ⟨0, Nat.zero_le _, rfl, rfl, Below.refl _ _⟩
    case round =>
      obtain ⟨k, hk, rfl, hh, hb⟩ := hrel
      have HH := Lib.hid hh
      clear hh
      by_cases hlt : k < l.length
      · have hltm : k < m.length := by rw [← HL.out]; exact hlt
        obtain ⟨b, off, rfl, hbl, hc1, hc2⟩ := h.pair hb (Nat.le_refl _) k hlt
        have hS' : SlR w (.slice ao' m.length cap') m := by rw [← HL.out]; exact h'
        obtain ⟨b', off', rfl, hbl', hc1', hc2'⟩ := hS'.pair hb (Nat.le_refl _) k hltm
        clear hS'
        have HS := Lib.hid (take_snoc l k hlt)
        have HS' := Lib.hid (take_snoc m k hltm)
        generalize l[k] = r at *
        generalize m[k] = r' at *
        obtain ⟨p, q⟩ := r
        obtain ⟨p', q'⟩ := r'
        simp only at hc1 hc2 hc1' hc2'
        clear hltm
        by_cases h1 : p = p'
        · subst h1
          by_cases h2 : q = q'
          · subst h2
            go_wp2
            go_quiet (fail)
            go_wp2
            go_roundw
            case rel => exact ⟨k + 1, by omega, by go_num, by rw [HS.out, HS'.out, HH.out], below_drewN hb _⟩
            case measure => simp [intOf]; omega
          · have e1 : (q == q') = false := by simpa using h2
            have HN := Lib.hid h2
            clear h2
            go_wp2
            go_quiet (fail)
            go_wp2
            go_ret
            exact ⟨ret_bool (by symm; rw [decide_eq_false_iff_not]; rintro rfl; have h1 := HS.out; rw [HS'.out] at h1; have h3 := List.append_inj_right' h1 rfl; injection h3 with h3; injection h3 with _ h3; exact HN.out h3.symm), below_drewN hb _⟩
        · have e1 : (p == p') = false := by simpa using h1
          have HN := Lib.hid h1
          clear h1
          go_wp2
          go_quiet (fail)
          go_wp2
          go_ret
          exact ⟨ret_bool (by symm; rw [decide_eq_false_iff_not]; rintro rfl; have h1 := HS.out; rw [HS'.out] at h1; have h3 := List.append_inj_right' h1 rfl; injection h3 with h3; injection h3 with h3 _; exact HN.out h3.symm), below_drewN hb _⟩
      · have HK := Lib.hid hlt
        go_wp2
        go_ret
        exact ⟨ret_bool (by symm; rw [decide_eq_true_iff]; have := HH.out; rw [List.take_of_length_le (by omega), List.take_of_length_le (by have := HL.out; omega)] at this; exact this), hb⟩
  · have hne : ((l.length : Int) == m.length) = false := by rw [beq_eq_false_iff_ne]; omega
    have hne2 : ((l.length : Int) != m.length) = true := by rw [bne_iff_ne]; omega
    go_enter Try.func35, Try.ntmps35
    go_wp2
    go_ret
    exact ⟨ret_bool (by symm; rw [decide_eq_false_iff_not]; intro e; exact hlen (by rw [e])), Below.refl _ _⟩

set_option maxHeartbeats 1000000 in
theorem ints_any (v v' : Value) (l m : List Int) (w : World) (h : SlI w v l) (h' : SlI w v' m) :
    Calls Try.prog 36 #[v, v'] w fun e w' => e = .returned (.bool (decide (l = m))) ∧ Below w.heap.size w w' := by
  obtain ⟨ao, cap, rfl, hcap, hm⟩ := Sl.shape h
  obtain ⟨ao', cap', rfl, hcap', hm'⟩ := Sl.shape h'
  by_cases hlen : l.length = m.length
  · rw [← hlen] at h' ⊢ hcap'
    have HL := Lib.hid hlen
    clear hlen
    go_enter Try.func36, Try.ntmps36
    go_wp2
    go_loopw [5] (fun i wr => ∃ k : Nat, k ≤ l.length ∧ i = .int .i64 k ∧ l.take k = m.take k ∧ Below w.heap.size w wr) (fun i _ => l.length - (intOf i).toNat)
    case atStart => exact ⟨0, Nat.zero_le _, rfl, rfl, Below.refl _ _⟩
    case round =>
      obtain ⟨k, hk, rfl, hh, hb⟩ := hrel
      have HH := Lib.hid hh
      clear hh
      by_cases hlt : k < l.length
      · have hltm : k < m.length := by rw [← HL.out]; exact hlt
        obtain ⟨b, off, rfl, hbl, hc1⟩ := h.cell hb (Nat.le_refl _) k hlt
        have hS' : SlI w (.slice ao' m.length cap') m := by rw [← HL.out]; exact h'
        obtain ⟨b', off', rfl, hbl', hc1'⟩ := hS'.cell hb (Nat.le_refl _) k hltm
        clear hS'
        have HS : Hid (l[k] = m[k] → l.take (k + 1) = m.take (k + 1)) := fun hh => by rw [take_snoc l k hlt, take_snoc m k hltm, HH.out, hh]
        have HNE : Hid (l[k] ≠ m[k] → decide (l = m) = false) := fun hh => by
          rw [decide_eq_false_iff_not]; rintro rfl; exact hh rfl
        generalize l[k] = r at *
        generalize m[k] = r' at *
        clear hltm
        by_cases h1 : r = r'
        · subst h1
          go_wp2
          go_quiet (fail)
          go_wp2
          go_roundw
          case rel => exact ⟨k + 1, by omega, by go_num, HS.out (by first | rfl | trivial), below_drewN hb _⟩
          case measure => simp [intOf]; omega
        · have HF : Hid (decide (l = m) = false) := HNE.out h1
          have s1 : (r == r') = false := by simpa using h1
          have s2 : (r != r') = true := by simpa using h1
          clear h1 HS HNE
          go_wp2
          go_quiet (fail)
          go_wp2
          go_ret
          exact ⟨ret_bool HF.out.symm, below_drewN hb _⟩
      · have HK := Lib.hid hlt
        go_wp2
        go_ret
        exact ⟨ret_bool (by symm; rw [decide_eq_true_iff]; have := HH.out; rw [List.take_of_length_le (by omega), List.take_of_length_le (by have := HL.out; omega)] at this; exact this), hb⟩
  · have hne : ((l.length : Int) == m.length) = false := by rw [beq_eq_false_iff_ne]; omega
    have hne2 : ((l.length : Int) != m.length) = true := by rw [bne_iff_ne]; omega
    go_enter Try.func36, Try.ntmps36
    go_wp2
    go_ret
    exact ⟨ret_bool (by symm; rw [decide_eq_false_iff_not]; intro e; exact hlen (by rw [e])), Below.refl _ _⟩

end Go.Proofs.Ytckonmlcgfbojaa
