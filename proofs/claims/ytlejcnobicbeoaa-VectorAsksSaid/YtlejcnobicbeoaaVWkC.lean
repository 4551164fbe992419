/- The walks of vector.Le, ref.Le, same. -/
import Derived.Test.YtlejcnobicbeoaaVWkB
namespace Go.Proofs.Ytlejcnobicbeoaa
open Go.RowKit

def leL (a b : List En) : Bool := a.all fun x => decide (x.2.2 ≤ getL b x.1 x.2.1)

theorem all_stop {α : Type} (p : α → Bool) (l : List α) (k : Nat) (hk : k < l.length) (h : p l[k] = false) : l.all p = false := by
  rw [List.all_eq_false]
  exact ⟨l[k], List.getElem_mem _, by simp [h]⟩
theorem all_done {α : Type} (p : α → Bool) (l : List α) (h : (l.take l.length).all p = true) : l.all p = true := by
  rwa [List.take_length] at h

set_option maxHeartbeats 1000000 in
theorem le_any (v v' : Value) (a b : List En) (w : World) (h : SlE w v a) (h' : SlE w v' b) (hl : b.length < 1000000) :
    Calls Try.prog 16 #[v, v'] w fun en w' => en = .returned (.bool (leL a b)) ∧ Below w.heap.size w w' := by
  obtain ⟨ao, cap, rfl, hcap, hm⟩ := Sl.shape h
  go_enter Try.func16, Try.ntmps16
  go_wp2
  go_loopw [9] (fun ix wr => ∃ k : Nat, k ≤ a.length ∧ ix = .int .i64 k ∧ (a.take k).all (fun x => decide (x.2.2 ≤ getL b x.1 x.2.1)) = true ∧ Below w.heap.size w wr) (fun ix _ => a.length - (intOf ix).toNat)
  case atStart => exact ⟨0, Nat.zero_le _, rfl, rfl, Below.refl _ _⟩
  case round =>
    obtain ⟨k, hk, rfl, ha, hb⟩ := hrel
    have HA := Lib.hid ha
    clear ha
    have hz := hb.size
    rcases Nat.lt_or_ge k a.length with hlt | hge
    · obtain ⟨b1, off, rfl, hbl, hc1, hc2, hc3⟩ := h.three hb (Nat.le_refl _) k hlt
      have HS : Hid ((a.take (k + 1)).all (fun x => decide (x.2.2 ≤ getL b x.1 x.2.1)) = ((a.take k).all (fun x => decide (x.2.2 ≤ getL b x.1 x.2.1)) && decide (a[k].2.2 ≤ getL b a[k].1 a[k].2.1))) := by show _ = _; rw [take_snocE a k hlt, List.all_append]; simp only [List.all_cons, List.all_nil, Bool.and_true]
      have HN : Hid (decide (a[k].2.2 ≤ getL b a[k].1 a[k].2.1) = false → leL a b = false) := fun hh => all_stop _ a k hlt hh
      generalize a[k] = r at *
      obtain ⟨x, y, z⟩ := r
      simp only at hc1 hc2 hc3
      generalize hgg : getL b x y = gg at *
      have HG := Lib.hid hgg
      clear hgg
      have hb0 : ∀ o, Below w.heap.size w (wr.alloc o).drew := fun o => (hb.alloc hz o).drew
      have HC : Hid (∀ o, Calls Try.prog 11 #[v', .int .i64 x, .int .i64 y] (wr.alloc o).drew fun en w' => en = .returned (.int .i64 gg) ∧ Below (wr.alloc o).drew.heap.size (wr.alloc o).drew w') := fun o => by
        rw [← HG.out]; exact get_any v' b x y _ (h'.keep (hb0 o) (Nat.le_refl _)) hl
      have HB0 := Lib.hid hb0
      clear hb0
      by_cases hle : gg < z
      · have HF : Hid (leL a b = false) := HN.out (by simpa [HG.out] using hle)
        go_wp2
        go_region_held3 (fun w' => w'.cell? ⟨wr.heap.size, 0, none⟩ = some (.int .i64 x) ∧ w'.cell? ⟨wr.heap.size, 1, none⟩ = some (.int .i64 y) ∧ w'.cell? ⟨wr.heap.size, 2, none⟩ = some (.int .i64 z)) (go_keep)
          (first
            | (go_at_call 11; refine (HC.out _).mono ?_; rintro en w1 ⟨rfl, hb1⟩; obtain ⟨hc9, hz9⟩ := bcell hb1))
        go_wp2
        go_ret
        exact ⟨ret_bool HF.out.symm, (HB0.out _).trans (hb1.mono (HB0.out _).size)⟩
      · have dle : decide (gg < z) = false := by simpa using hle
        have HS2 : Hid ((a.take (k + 1)).all (fun x => decide (x.2.2 ≤ getL b x.1 x.2.1)) = true) := by show _ = _; rw [HS.out, HA.out]; simp only [Bool.true_and, decide_eq_true_iff]; omega
        clear hle HN HS HA
        go_wp2
        go_region_held3 (fun w' => w'.cell? ⟨wr.heap.size, 0, none⟩ = some (.int .i64 x) ∧ w'.cell? ⟨wr.heap.size, 1, none⟩ = some (.int .i64 y) ∧ w'.cell? ⟨wr.heap.size, 2, none⟩ = some (.int .i64 z)) (go_keep)
          (first
            | (go_at_call 11; refine (HC.out _).mono ?_; rintro en w1 ⟨rfl, hb1⟩; obtain ⟨hc9, hz9⟩ := bcell hb1))
        go_wp2
        go_roundw
        case rel => exact ⟨k + 1, by omega, by go_num, HS2.out, (HB0.out _).trans (hb1.mono (HB0.out _).size)⟩
        case measure => simp [intOf]; omega
    · have HF : Hid (leL a b = true) := by
        have := HA.out
        rw [List.take_of_length_le hge] at this
        exact this
      clear HA
      go_wp2
      go_ret
      exact ⟨ret_bool HF.out.symm, hb⟩

def leV (a b : List En) : Bool := a.all fun x => decide (x.2.2 ≤ getV b x.1 x.2.1)

theorem quiet_left' {P : Program} {f : FuncId} {args : Array Value} {w : World} {n : Nat} {v : Value}
    (h : Calls P f args (w.drewN n) fun e w' => e = .returned v ∧ w.drewN n = w') : Calls P f args (w.drewN n) fun e w'' => e = .returned v ∧ ∃ m, w'' = w.drewN m :=
  h.mono fun _ _ ⟨he, hm⟩ => ⟨he, n, hm.symm⟩

set_option maxHeartbeats 1000000 in
theorem rle_any (v v' : Value) (a b : List En) (w : World) (h : SlE w v a) (h' : SlE w v' b) (hl : b.length < 1000000) :
    Calls Try.prog 22 #[v, v'] w fun en w' => en = .returned (.bool (leV a b)) ∧ Below w.heap.size w w' := by
  obtain ⟨ao, cap, rfl, hcap, hm⟩ := Sl.shape h
  go_enter Try.func22, Try.ntmps22
  go_wp2
  go_loopw [5] (fun ix wr => ∃ k : Nat, k ≤ a.length ∧ ix = .int .i64 k ∧ (a.take k).all (fun x => decide (x.2.2 ≤ getV b x.1 x.2.1)) = true ∧ Below w.heap.size w wr) (fun ix _ => a.length - (intOf ix).toNat)
  case atStart => exact ⟨0, Nat.zero_le _, rfl, rfl, Below.refl _ _⟩
  case round =>
    obtain ⟨k, hk, rfl, ha, hb⟩ := hrel
    have HA := Lib.hid ha
    clear ha
    rcases Nat.lt_or_ge k a.length with hlt | hge
    · obtain ⟨b1, off, rfl, hbl, hc1, hc2, hc3⟩ := h.three hb (Nat.le_refl _) k hlt
      have HS : Hid ((a.take (k + 1)).all (fun x => decide (x.2.2 ≤ getV b x.1 x.2.1)) = ((a.take k).all (fun x => decide (x.2.2 ≤ getV b x.1 x.2.1)) && decide (a[k].2.2 ≤ getV b a[k].1 a[k].2.1))) := by show _ = _; rw [take_snocE a k hlt, List.all_append]; simp only [List.all_cons, List.all_nil, Bool.and_true]
      have HN : Hid (decide (a[k].2.2 ≤ getV b a[k].1 a[k].2.1) = false → leV a b = false) := fun hh => all_stop _ a k hlt hh
      generalize a[k] = r at *
      obtain ⟨x, y, z⟩ := r
      simp only at hc1 hc2 hc3
      generalize hgg : getV b x y = gg at *
      have HG := Lib.hid hgg
      clear hgg
      have HC : Hid (∀ n, Calls Try.prog 19 #[v', .int .i64 x, .int .i64 y] (wr.drewN n) fun e w'' => e = .returned (.int .i64 gg) ∧ ∃ m, w'' = wr.drewN m) := fun n => by
        rw [← HG.out]; exact quiet_left' (rget_any v' b x y _ (h'.keep (below_drewN hb n) (Nat.le_refl _)) hl)
      by_cases hle : gg < z
      · have HF : Hid (leV a b = false) := HN.out (by simpa [HG.out] using hle)
        go_wp2
        go_quiet ((go_at_call 19; exact HC.out _))
        go_wp2
        go_ret
        exact ⟨ret_bool HF.out.symm, below_drewN hb _⟩
      · have dle : decide (gg < z) = false := by simpa using hle
        have HS2 : Hid ((a.take (k + 1)).all (fun x => decide (x.2.2 ≤ getV b x.1 x.2.1)) = true) := by show _ = _; rw [HS.out, HA.out]; simp only [Bool.true_and, decide_eq_true_iff]; omega
        clear hle HN HS HA
        go_wp2
        go_quiet ((go_at_call 19; exact HC.out _))
        go_wp2
        go_roundw
        case rel => exact ⟨k + 1, by omega, by go_num, HS2.out, below_drewN hb _⟩
        case measure => simp [intOf]; omega
    · have HF : Hid (leV a b = true) := by
        have := HA.out
        rw [List.take_of_length_le hge] at this
        exact this
      clear HA
      go_wp2
      go_ret
      exact ⟨ret_bool HF.out.symm, hb⟩

set_option maxHeartbeats 1000000 in
theorem same_any (v v' : Value) (l m : List En) (w : World) (h : SlE w v l) (h' : SlE w v' m) :
    Calls Try.prog 18 #[v, v'] w fun e w' => e = .returned (.bool (decide (l = m))) ∧ Below w.heap.size w w' := by
  obtain ⟨ao, cap, rfl, hcap, hm⟩ := Sl.shape h
  obtain ⟨ao', cap', rfl, hcap', hm'⟩ := Sl.shape h'
  by_cases hlen : l.length = m.length
  · rw [← hlen] at h' ⊢ hcap'
    have HL := Lib.hid hlen
    clear hlen
    go_enter Try.func18, Try.ntmps18
    go_wp2
    go_loopw [5] (fun i wr => ∃ k : Nat, k ≤ l.length ∧ i = .int .i64 k ∧ l.take k = m.take k ∧ Below w.heap.size w wr) (fun i _ => l.length - (intOf i).toNat)
    case atStart => exact ⟨0, Nat.zero_le _, rfl, rfl, Below.refl _ _⟩
    case round =>
      obtain ⟨k, hk, rfl, hh, hb⟩ := hrel
      have HH := Lib.hid hh
      clear hh
      by_cases hlt : k < l.length
      · have hltm : k < m.length := by rw [← HL.out]; exact hlt
        obtain ⟨b, off, rfl, hbl, hc1, hc2, hc3⟩ := h.three hb (Nat.le_refl _) k hlt
        have hS' : SlE w (.slice ao' m.length cap') m := by rw [← HL.out]; exact h'
        obtain ⟨b', off', rfl, hbl', hc1', hc2', hc3'⟩ := hS'.three hb (Nat.le_refl _) k hltm
        clear hS'
        have HS : Hid (l[k] = m[k] → l.take (k + 1) = m.take (k + 1)) := fun hh => by rw [take_snocE l k hlt, take_snocE m k hltm, HH.out, hh]
        have HNE : Hid (l[k] ≠ m[k] → decide (l = m) = false) := fun hh => by
          rw [decide_eq_false_iff_not]; rintro rfl; exact hh rfl
        generalize l[k] = r at *
        generalize m[k] = r' at *
        obtain ⟨p, q, s⟩ := r
        obtain ⟨p', q', s'⟩ := r'
        simp only at hc1 hc2 hc3 hc1' hc2' hc3'
        clear hltm
        by_cases h1 : p = p' ∧ q = q' ∧ s = s'
        · obtain ⟨rfl, rfl, rfl⟩ := h1
          go_wp2
          go_quiet (fail)
          go_wp2
          go_roundw
          case rel => exact ⟨k + 1, by omega, by go_num, HS.out (by first | rfl | trivial), below_drewN hb _⟩
          case measure => simp [intOf]; omega
        · have HF : Hid (decide (l = m) = false) := HNE.out (fun e => h1 (by simpa using e))
          by_cases p1 : p = p'
          · subst p1
            by_cases q1 : q = q'
            · subst q1
              have s1 : (s == s') = false := by simpa using h1
              clear h1 HS HNE
              go_wp2
              go_quiet (fail)
              go_wp2
              go_ret
              exact ⟨ret_bool HF.out.symm, below_drewN hb _⟩
            · have s1 : (q == q') = false := by simpa using q1
              clear h1 q1 HS HNE
              go_wp2
              go_quiet (fail)
              go_wp2
              go_ret
              exact ⟨ret_bool HF.out.symm, below_drewN hb _⟩
          · have s1 : (p == p') = false := by simpa using p1
            clear h1 p1 HS HNE
            go_wp2
            go_quiet (fail)
            go_wp2
            go_ret
            exact ⟨ret_bool HF.out.symm, below_drewN hb _⟩
      · have HK := Lib.hid hlt
        go_wp2
        go_ret
        exact ⟨ret_bool (by symm; rw [decide_eq_true_iff]; have := HH.out; rw [List.take_of_length_le (by omega), List.take_of_length_le (by have := HL.out; omega)] at this; exact this), hb⟩
  · have hne : ((l.length : Int) == m.length) = false := by rw [beq_eq_false_iff_ne]; omega
    have hne2 : ((l.length : Int) != m.length) = true := by rw [bne_iff_ne]; omega
    go_enter Try.func18, Try.ntmps18
    go_wp2
    go_ret
    exact ⟨ret_bool (by symm; rw [decide_eq_false_iff_not]; intro e; exact hlen (by rw [e])), Below.refl _ _⟩

end Go.Proofs.Ytlejcnobicbeoaa
