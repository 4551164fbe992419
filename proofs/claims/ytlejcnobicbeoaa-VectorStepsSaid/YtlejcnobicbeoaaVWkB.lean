/- The walks of vector.Has, Le, ref.Get, ref.Has, less. -/
import Derived.Test.YtlejcnobicbeoaaVWkA
namespace Go.Proofs.Ytlejcnobicbeoaa
open Go.RowKit

def hasL (l : List En) (d e s : Int) : Bool := decide (1 ≤ s) && decide (s ≤ getL l d e)

set_option maxHeartbeats 1000000 in
theorem has_any (v : Value) (l : List En) (d e s : Int) (w : World) (h : SlE w v l) (hl : l.length < 1000000) :
    Calls Try.prog 12 #[v, .agg #[.int .i64 d, .int .i64 e, .int .i64 s]] w fun en w' => en = .returned (.bool (hasL l d e s)) ∧ Below w.heap.size w w' := by
  by_cases h1 : 1 ≤ s
  · have HF : Hid (hasL l d e s = decide (s ≤ getL l d e)) := by show _ = _; simp [hasL, h1]
    have d1 : decide (1 ≤ s) = true := by simpa using h1
    generalize hgg : getL l d e = gg at HF
    have HG := Lib.hid hgg
    clear hgg
    have hb0 : ∀ o, Below w.heap.size w (w.alloc o).drew := fun o => ((Below.refl _ _).alloc (Nat.le_refl _) o).drew
    have HC : Hid (∀ o, Calls Try.prog 11 #[v, .int .i64 d, .int .i64 e] (w.alloc o).drew fun en w' => en = .returned (.int .i64 gg) ∧ Below (w.alloc o).drew.heap.size (w.alloc o).drew w') := fun o => by
      rw [← HG.out]; exact get_any v l d e _ (h.keep (hb0 o) (Nat.le_refl _)) hl
    have HB0 := Lib.hid hb0
    clear hb0
    go_enter Try.func12, Try.ntmps12
    go_wp2
    go_region_held3 (fun w' => w'.cell? ⟨w.heap.size, 0, none⟩ = some (.int .i64 d) ∧ w'.cell? ⟨w.heap.size, 1, none⟩ = some (.int .i64 e) ∧ w'.cell? ⟨w.heap.size, 2, none⟩ = some (.int .i64 s)) (go_keep)
      (first
        | (go_at_call 11; refine (HC.out _).mono ?_; rintro en w1 ⟨rfl, hb1⟩; obtain ⟨hc1, hz1⟩ := bcell hb1))
    go_wp2
    go_ret
    exact ⟨ret_bool HF.out.symm, (HB0.out _).trans (hb1.mono (by simp))⟩
  · have HF : Hid (hasL l d e s = false) := by show _ = _; simp [hasL, h1]
    have d1 : decide (1 ≤ s) = false := by simpa using h1
    clear h1
    go_enter Try.func12, Try.ntmps12
    go_wp2
    go_quiet (fail)
    go_wp2
    go_ret
    exact ⟨ret_bool HF.out.symm, below_drewN ((Below.refl _ _).alloc (Nat.le_refl _) _) _⟩

set_option maxHeartbeats 1000000 in
theorem rget_any (v : Value) (l : List En) (d e : Int) (w : World) (h : SlE w v l) (_hl : l.length < 1000000) :
    Calls Try.prog 19 #[v, .int .i64 d, .int .i64 e] w fun en w' => en = .returned (.int .i64 (getV l d e)) ∧ w = w' := by
  obtain ⟨ao, cap, rfl, hcap, hm⟩ := Sl.shape h
  go_enter Try.func19, Try.ntmps19
  go_wp2
  go_loop [7] (fun ix => ∃ k : Nat, k ≤ l.length ∧ ix = .int .i64 k ∧ getV l d e = getV (l.drop k) d e) (fun ix => l.length - (intOf ix).toNat)
  case atStart => exact ⟨0, Nat.zero_le _, rfl, rfl⟩
  case round =>
    obtain ⟨k, hk, rfl, ha⟩ := hrel
    have HA := Lib.hid ha
    clear ha
    rcases Nat.lt_or_ge k l.length with hlt | hge
    · obtain ⟨b, off, rfl, hbl, hc1, hc2, hc3⟩ := h.three (Below.refl w.heap.size w) (Nat.le_refl _) k hlt
      have HD : Hid (getV (l.drop k) d e = if l[k].1 = d ∧ l[k].2.1 = e then l[k].2.2 else getV (l.drop (k + 1)) d e) := by show _ = _; rw [List.drop_eq_getElem_cons hlt, getV]
      generalize l[k] = r at *
      obtain ⟨x, y, z⟩ := r
      simp only at hc1 hc2 hc3
      by_cases h1 : x = d
      · subst h1
        by_cases h2 : y = e
        · subst h2
          have HF : Hid (getV l x y = z) := by show _ = _; rw [HA.out, HD.out, if_pos ⟨rfl, rfl⟩]
          clear HD HA
          go_wp2
          go_ret
          exact ⟨ret_int HF.out.symm, rfl⟩
        · have HF : Hid (getV l x e = getV (l.drop (k + 1)) x e) := by show _ = _; rw [HA.out, HD.out, if_neg (fun hh => h2 hh.2)]
          have e2 : (y == e) = false := by simpa using h2
          clear HD HA h2
          go_wp2
          go_round
          case rel => exact ⟨k + 1, by omega, by go_num, HF.out⟩
          case measure => simp [intOf]; omega
      · have HF : Hid (getV l d e = getV (l.drop (k + 1)) d e) := by show _ = _; rw [HA.out, HD.out, if_neg (fun hh => h1 hh.1)]
        have e2 : (x == d) = false := by simpa using h1
        clear HD HA h1
        go_wp2
        go_round
        case rel => exact ⟨k + 1, by omega, by go_num, HF.out⟩
        case measure => simp [intOf]; omega
    · have HF : Hid (getV l d e = 0) := by show _ = _; rw [HA.out, List.drop_eq_nil_of_le hge]; rfl
      clear HA
      go_wp2
      go_ret
      exact ⟨ret_int HF.out.symm, rfl⟩

def hasV (l : List En) (d e s : Int) : Bool := decide (1 ≤ s) && decide (s ≤ getV l d e)

set_option maxHeartbeats 1000000 in
theorem rhas_any (v : Value) (l : List En) (d e s : Int) (w : World) (h : SlE w v l) (hl : l.length < 1000000) :
    Calls Try.prog 20 #[v, .agg #[.int .i64 d, .int .i64 e, .int .i64 s]] w fun en w' => en = .returned (.bool (hasV l d e s)) ∧ Below w.heap.size w w' := by
  by_cases h1 : 1 ≤ s
  · have HF : Hid (hasV l d e s = decide (s ≤ getV l d e)) := by show _ = _; simp [hasV, h1]
    have d1 : decide (1 ≤ s) = true := by simpa using h1
    generalize hgg : getV l d e = gg at HF
    have HG := Lib.hid hgg
    clear hgg
    have hb0 : ∀ o, Below w.heap.size w (w.alloc o).drew := fun o => ((Below.refl _ _).alloc (Nat.le_refl _) o).drew
    have HC : Hid (∀ o, Calls Try.prog 19 #[v, .int .i64 d, .int .i64 e] (w.alloc o).drew fun en w' => en = .returned (.int .i64 gg) ∧ (w.alloc o).drew = w') := fun o => by
      rw [← HG.out]; exact rget_any v l d e _ (h.keep (hb0 o) (Nat.le_refl _)) hl
    have HB0 := Lib.hid hb0
    clear hb0
    go_enter Try.func20, Try.ntmps20
    go_wp2
    go_region_held3 (fun w' => w'.cell? ⟨w.heap.size, 0, none⟩ = some (.int .i64 d) ∧ w'.cell? ⟨w.heap.size, 1, none⟩ = some (.int .i64 e) ∧ w'.cell? ⟨w.heap.size, 2, none⟩ = some (.int .i64 s)) (go_keep)
      (first
        | (go_at_call 19; refine (HC.out _).mono ?_; rintro en w1 ⟨rfl, rfl⟩))
    go_wp2
    go_ret
    exact ⟨ret_bool HF.out.symm, HB0.out _⟩
  · have HF : Hid (hasV l d e s = false) := by show _ = _; simp [hasV, h1]
    have d1 : decide (1 ≤ s) = false := by simpa using h1
    clear h1
    go_enter Try.func20, Try.ntmps20
    go_wp2
    go_quiet (fail)
    go_wp2
    go_ret
    exact ⟨ret_bool HF.out.symm, below_drewN ((Below.refl _ _).alloc (Nat.le_refl _) _) _⟩

/-- less: of pairs. -/
theorem less_any (x y : En) (w : World) :
    Calls Try.prog 30 #[.agg #[.int .i64 x.1, .int .i64 x.2.1, .int .i64 x.2.2], .agg #[.int .i64 y.1, .int .i64 y.2.1, .int .i64 y.2.2]] w fun en w' => en = .returned (.bool (decide (ltP x y))) ∧ Below w.heap.size w w' := by
  obtain ⟨a, b, c⟩ := x
  obtain ⟨a', b', c'⟩ := y
  have hB : ∀ o o', Below w.heap.size w ((w.alloc o).alloc o') := fun o o' => ((Below.refl _ _).alloc (Nat.le_refl _) o).alloc (by simp) o'
  by_cases h1 : a < a'
  · have HF : Hid (decide (ltP (a, b, c) (a', b', c')) = true) := by show _ = _; simp [ltP, h1]
    go_enter Try.func30, Try.ntmps30
    go_wp2
    go_ret
    exact ⟨ret_bool HF.out.symm, hB _ _⟩
  · have d1 : decide (a < a') = false := by simpa using h1
    by_cases h2 : a = a'
    · subst h2
      have HF : Hid (decide (ltP (a, b, c) (a, b', c')) = decide (b < b')) := by show _ = _; simp [ltP]
      go_enter Try.func30, Try.ntmps30
      go_wp2
      go_ret
      exact ⟨ret_bool HF.out.symm, hB _ _⟩
    · have d2 : (a == a') = false := by simpa using h2
      have HF : Hid (decide (ltP (a, b, c) (a', b', c')) = false) := by show _ = _; simp [ltP, h2]; omega
      clear h1 h2
      go_enter Try.func30, Try.ntmps30
      go_wp2
      go_ret
      exact ⟨ret_bool HF.out.symm, hB _ _⟩

end Go.Proofs.Ytlejcnobicbeoaa
