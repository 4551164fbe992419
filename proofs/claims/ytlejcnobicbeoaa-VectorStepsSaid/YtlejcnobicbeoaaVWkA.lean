/- The walks of cmp.Compare, cmp.Or, pair.compare. -/
import Derived.Test.YtlejcnobicbeoaaVRg
import Derived.StillTailTactics
namespace Go.Proofs.Ytlejcnobicbeoaa
open Go.RowKit

def cmpS (a b : Int) : Int := if a < b then -1 else if b < a then 1 else 0

set_option maxHeartbeats 400000 in
theorem cmp_any (a b : Int) (w : World) : Calls Try.prog 32 #[.int .i64 a, .int .i64 b] w fun e w' => e = .returned (.int .i64 (cmpS a b)) ∧ w = w' := by
  rcases Int.lt_trichotomy a b with h | h | h
  · have e : cmpS a b = -1 := by simp [cmpS, h]
    rw [e]
    go_enter Try.func32, Try.ntmps32
    go_wp2
    go_ret
    exact ⟨rfl, rfl⟩
  · subst h
    have e : cmpS a a = 0 := by simp [cmpS]
    rw [e]
    go_enter Try.func32, Try.ntmps32
    go_wp2
    go_ret
    exact ⟨rfl, rfl⟩
  · have e : cmpS a b = 1 := by simp [cmpS, h]; omega
    have hn : ¬ a < b := by omega
    rw [e]
    go_enter Try.func32, Try.ntmps32
    go_wp2
    go_ret
    exact ⟨rfl, rfl⟩

def orS (x y : Int) : Int := if x = 0 then y else x

set_option maxHeartbeats 400000 in
theorem or_any (b : Nat) (x y : Int) (w : World) (c0 : w.cell? ⟨b, 0, none⟩ = some (.int .i64 x)) (c1 : w.cell? ⟨b, 1, none⟩ = some (.int .i64 y)) :
    Calls Try.prog 31 #[.slice (some ⟨b, 0, none⟩) 2 2] w fun e w' => e = .returned (.int .i64 (orS x y)) ∧ w = w' := by
  go_enter Try.func31, Try.ntmps31
  go_wp2
  go_loop [8] (fun i => (i = .int .i64 0 ∨ (i = .int .i64 1 ∧ x = 0) ∨ (i = .int .i64 2 ∧ x = 0 ∧ y = 0))) (fun i => 3 - (intOf i).toNat)
  case atStart => exact .inl rfl
  case round =>
    rcases hrel with rfl | ⟨rfl, hx⟩ | ⟨rfl, hx, hy⟩
    · by_cases h : x = 0
      · subst h
        go_wp2
        go_round
        case rel => exact .inr (.inl ⟨rfl, by first | rfl | trivial⟩)
        case measure => simp [intOf]
      · have e : (x != 0) = true := by simpa using h
        have HO : Hid (orS x y = x) := by show _ = _; simp [orS, h]
        clear h
        go_wp2
        go_ret
        first | exact ⟨ret_int HO.out.symm, rfl⟩ | exact ⟨by first | exact ret_int HO.out.symm | trivial, by trivial⟩
    · subst hx
      by_cases h : y = 0
      · subst h
        go_wp2
        go_round
        case rel => simp
        case measure => simp [intOf]
      · have e : (y != 0) = true := by simpa using h
        have HO : Hid (orS 0 y = y) := by show _ = _; simp [orS]
        clear h
        go_wp2
        go_ret
        first | exact ⟨ret_int HO.out.symm, rfl⟩ | exact ⟨by first | exact ret_int HO.out.symm | trivial, by trivial⟩
    · subst hx hy
      have HO : Hid (orS 0 0 = 0) := rfl
      go_wp2
      go_ret
      first | exact ⟨ret_int HO.out.symm, rfl⟩ | exact ⟨by first | exact ret_int HO.out.symm | trivial, by trivial⟩

/-- The order of two pairs. -/
def cmpP (a b : Int × Int) : Int := orS (cmpS a.1 b.1) (cmpS a.2 b.2)

set_option maxHeartbeats 1000000 in
theorem pair_any (a b c d : Int) (w : World) : Calls Try.prog 29 #[.agg #[.int .i64 a, .int .i64 b], .agg #[.int .i64 c, .int .i64 d]] w fun e w' => e = .returned (.int .i64 (cmpP (a, b) (c, d))) ∧ Below w.heap.size w w' := by
  go_enter Try.func29, Try.ntmps29
  go_wp2
  go_region_held3 (fun w' => w'.cell? ⟨w.heap.size, 0, none⟩ = some (.int .i64 a) ∧ w'.cell? ⟨w.heap.size, 1, none⟩ = some (.int .i64 b) ∧ w'.cell? ⟨w.heap.size + 1, 0, none⟩ = some (.int .i64 c) ∧ w'.cell? ⟨w.heap.size + 1, 1, none⟩ = some (.int .i64 d)) (simp [go_sem, World.cell?_alloc_past])
    (first
      | (go_at_call 32; refine (cmp_any _ _ _).mono ?_; rintro e w' ⟨rfl, rfl⟩)
      | (go_at_call 31; refine (or_any _ (cmpS a c) (cmpS b d) _ (by simp [go_sem]) (by simp [go_sem])).mono ?_; rintro e w' ⟨rfl, rfl⟩))
  go_wp2
  go_ret
  refine ⟨rfl, ?_⟩
  repeat (first | exact Below.refl _ _ | apply Below.drew | apply below_drewN | (refine Below.alloc ?_ (by simp; try omega) _))

/-- vector.of. -/
theorem of_pair (a b c : Int) (w : World) : Calls Try.prog 28 #[.agg #[.int .i64 a, .int .i64 b, .int .i64 c]] w fun e w' => e = .returned (.agg #[.int .i64 a, .int .i64 b]) ∧ Below w.heap.size w w' := by
  go_enter Try.func28, Try.ntmps28
  go_wp2
  refine bodyPost_ret (v := .agg #[.int .i64 a, .int .i64 b]) (by simp [results, Try.results28, go_sem]) rfl ⟨rfl, ?_⟩
  repeat (first | exact Below.refl _ _ | apply Below.drew | apply below_drewN | (refine Below.alloc ?_ (by simp; try omega) _))

theorem bcell {W w1 : World} (hb : Below W.heap.size W w1) : (∀ b o, b < W.heap.size → w1.cell? ⟨b, o, none⟩ = W.cell? ⟨b, o, none⟩) ∧ W.heap.size ≤ w1.heap.size :=
  ⟨fun b o h => hb.cell (p := ⟨b, o, none⟩) h, hb.size⟩

theorem held_below {w w' : World} {a : Addr} {x : Value} {B : Nat} (h : w.cell? a = some x) (hb : Below B w w') (hB : a.block < B) : w'.cell? a = some x := by rw [hb.cell hB]; exact h

set_option maxHeartbeats 1000000 in
/-- The closure of vector.at. -/
theorem at1_any (g : Nat) (d e : Int) (x : En) (w : World) (c0 : w.cell? ⟨g, 0, none⟩ = some (.int .i64 d)) (c1 : w.cell? ⟨g, 1, none⟩ = some (.int .i64 e)) (hg : g < w.heap.size) :
    Calls Try.prog 27 #[.agg #[.int .i64 x.1, .int .i64 x.2.1, .int .i64 x.2.2], .pointer (some ⟨g, 0, none⟩)] w fun en w' => en = .returned (.int .i64 (cmpP (x.1, x.2.1) (d, e))) ∧ Below w.heap.size w w' := by
  obtain ⟨x1, x2, x3⟩ := x
  have hg1 : g < w.heap.size + 1 := by omega
  go_enter Try.func27, Try.ntmps27
  go_wp2
  go_region_held3 (fun w' => w'.cell? ⟨w.heap.size, 0, none⟩ = some (.int .i64 x1) ∧ w'.cell? ⟨w.heap.size, 1, none⟩ = some (.int .i64 x2) ∧ w'.cell? ⟨w.heap.size, 2, none⟩ = some (.int .i64 x3) ∧ w'.cell? ⟨g, 0, none⟩ = some (.int .i64 d) ∧ w'.cell? ⟨g, 1, none⟩ = some (.int .i64 e)) (go_keep)
    (first
      | (go_at_call 28; refine (of_pair _ _ _ _).mono ?_; rintro e w1 ⟨rfl, hb1⟩; obtain ⟨hc1, hz1⟩ := bcell hb1; have hz2 : w.heap.size < w1.heap.size := (by simp at hz1; omega); have hg2 : g < w1.heap.size := (by omega))
      | (go_at_call 29; refine (pair_any _ _ _ _ _).mono ?_; rintro e w2 ⟨rfl, hb2⟩; obtain ⟨hc2, hz2⟩ := bcell hb2))
  go_wp2
  go_ret
  have q1 : Below w.heap.size w w1 := (((Below.refl _ _).alloc (Nat.le_refl _) _).drew).trans (hb1.mono (by simp))
  exact ⟨rfl, q1.trans (hb2.mono q1.size)⟩

theorem cmpP_lt (x : En) (d e : Int) : cmpP (x.1, x.2.1) (d, e) < 0 ↔ ltP x (d, e, 0) := by
  unfold cmpP orS cmpS ltP
  simp only
  repeat' split
  all_goals omega
theorem cmpP_eq (x : En) (d e : Int) : cmpP (x.1, x.2.1) (d, e) = 0 ↔ eqP x (d, e, 0) := by
  unfold cmpP orS cmpS eqP
  simp only
  repeat' split
  all_goals omega

/-- Where a pair is, or should be; whether it is there. -/
def atS : List En → Int → Int → Nat × Bool
  | [], _, _ => (0, false)
  | x :: t, d, e => if ltP x (d, e, 0) then ((atS t d e).1 + 1, (atS t d e).2) else (0, decide (eqP x (d, e, 0)))

theorem atS_step (l : List En) (d e : Int) (k : Nat) (hk : k < l.length) (h : ltP l[k] (d, e, 0)) :
    (k + (atS (l.drop k) d e).1, (atS (l.drop k) d e).2) = (k + 1 + (atS (l.drop (k + 1)) d e).1, (atS (l.drop (k + 1)) d e).2) := by
  rw [List.drop_eq_getElem_cons hk, atS, if_pos h]
  simp only [Prod.mk.injEq, and_true]; omega
theorem atS_stop (l : List En) (d e : Int) (k : Nat) (hk : k < l.length) (h : ¬ ltP l[k] (d, e, 0)) : atS (l.drop k) d e = (0, decide (eqP l[k] (d, e, 0))) := by
  rw [List.drop_eq_getElem_cons hk, atS, if_neg h]

/-- A function's two results. -/
theorem ret_two {a b : Int} {c d : Bool} (h : a = b) (h' : c = d) : Ending.returned (.tuple #[.int .i64 a, .bool c]) = .returned (.tuple #[.int .i64 b, .bool d]) := by rw [h, h']

set_option maxHeartbeats 2000000 in
theorem find_any (v : Value) (l : List En) (g : Nat) (d e : Int) (w : World) (h : SlE w v l) (hl : l.length < 1000000) (c0 : w.cell? ⟨g, 0, none⟩ = some (.int .i64 d)) (c1 : w.cell? ⟨g, 1, none⟩ = some (.int .i64 e)) (hg : g < w.heap.size) :
    Calls Try.prog 26 #[v, .func (.func 27) #[] #[.pointer (some ⟨g, 0, none⟩)]] w fun en w' => en = .returned (.tuple #[.int .i64 (atS l d e).1, .bool (atS l d e).2]) ∧ Below w.heap.size w w' := by
  obtain ⟨ao, cap, rfl, hcap, hm⟩ := Sl.shape h
  go_enter Try.func26, Try.ntmps26
  go_upto_block 0 with fail
  go_cut [6] (fun ix wx => ∃ k : Nat, k ≤ l.length ∧ ix = .int .i64 k ∧ (k < l.length → ∀ hk : k < l.length, ¬ ltP l[k] (d, e, 0)) ∧ atS l d e = (k + (atS (l.drop k) d e).1, (atS (l.drop k) d e).2) ∧ Below w.heap.size w wx)
  case first =>
    go_wp2
    go_loopw [6] (fun ix wr => ∃ k : Nat, k ≤ l.length ∧ ix = .int .i64 k ∧ atS l d e = (k + (atS (l.drop k) d e).1, (atS (l.drop k) d e).2) ∧ Below w.heap.size w wr) (fun ix _ => l.length - (intOf ix).toNat)
    case atStart => exact ⟨0, Nat.zero_le _, rfl, by simp, Below.refl _ _⟩
    case round =>
      obtain ⟨k, hk, rfl, ha, hb⟩ := hrel
      have HA := Lib.hid ha
      clear ha
      rcases Nat.lt_or_ge k l.length with hlt | hge
      · obtain ⟨b, off, rfl, hbl, hc1, hc2, hc3⟩ := h.three hb (Nat.le_refl _) k hlt
        have HST := Lib.hid (atS_step l d e k hlt)
        have HK := Lib.hid (cmpP_lt l[k] d e)
        have HR : Hid (∀ hk : k < l.length, l[k] = l[k]'hlt) := fun _ => rfl
        generalize l[k]'hlt = r at *
        go_wp2_with fail
        refine (at1_any g d e r _ (held_below c0 hb hg) (held_below c1 hb hg) (Nat.lt_of_lt_of_le hg hb.size)).mono ?_
        rintro en w1 ⟨rfl, hb1⟩
        have hb2 := hb.trans (hb1.mono hb.size)
        clear hb1
        by_cases hx : ltP r (d, e, 0)
        · have hcm := HK.out.2 hx
          have HX := Lib.hid hx
          clear hx
          generalize cmpP (r.1, r.2.1) (d, e) = cm at *
          go_wp2
          go_roundw
          case rel => exact ⟨k + 1, by omega, by go_num, by rw [HA.out]; exact HST.out HX.out, hb2⟩
          case measure => simp [intOf]; omega
        · have hcm : ¬ cmpP (r.1, r.2.1) (d, e) < 0 := fun hh => hx (HK.out.1 hh)
          have HX := Lib.hid hx
          clear hx
          generalize cmpP (r.1, r.2.1) (d, e) = cm at *
          have dcm : decide (cm < 0) = false := by simpa using hcm
          go_wp2
          go_meet
          exact ⟨k, hk, rfl, fun _ hk2 => by rw [HR.out hk2]; exact HX.out, HA.out, hb2⟩
      · have dk : decide (k < l.length) = false := by simpa using hge
        go_wp2
        go_meet
        exact ⟨k, hk, rfl, fun hk2 => by omega, HA.out, hb⟩
  case rest =>
  obtain ⟨k, hk, rfl, hst, ha, hb⟩ := hcut
  have HA := Lib.hid ha
  clear ha
  rcases Nat.lt_or_ge k l.length with hlt | hge
  · obtain ⟨b, off, rfl, hbl, hc1, hc2, hc3⟩ := h.three hb (Nat.le_refl _) k hlt
    have HST := Lib.hid (atS_stop l d e k hlt (hst hlt hlt))
    have HK := Lib.hid (cmpP_eq l[k] d e)
    clear hst
    generalize l[k]'hlt = r at *
    go_wp2_with fail
    refine (at1_any g d e r _ (held_below c0 hb hg) (held_below c1 hb hg) (Nat.lt_of_lt_of_le hg hb.size)).mono ?_
    rintro en w1 ⟨rfl, hb1⟩
    have hb2 := hb.trans (hb1.mono hb.size)
    have hfin : Hid (atS l d e = (k, cmpP (r.1, r.2.1) (d, e) == 0)) := by
      show _ = _
      rw [HA.out, HST.out]
      simp only [Nat.add_zero, Prod.mk.injEq, true_and]
      rw [Bool.eq_iff_iff, decide_eq_true_iff, beq_iff_eq]
      exact HK.out.symm
    clear hb1 hb HA HST HK
    generalize cmpP (r.1, r.2.1) (d, e) = cm at *
    go_wp2
    go_ret2
    exact ⟨ret_two (by rw [hfin.out]) (by rw [hfin.out]), hb2⟩
  · have dk : decide (k < l.length) = false := by simpa using hge
    have hfin : Hid (atS l d e = (k, false)) := by
      show _ = _
      rw [HA.out, List.drop_eq_nil_of_le hge]
      rfl
    clear hst HA
    go_wp2
    go_ret2
    exact ⟨ret_two (by rw [hfin.out]) (by rw [hfin.out]), hb⟩

set_option maxHeartbeats 1000000 in
/-- vector.at. -/
theorem at_any (v : Value) (l : List En) (d e : Int) (w : World) (h : SlE w v l) (hl : l.length < 1000000) :
    Calls Try.prog 23 #[v, .agg #[.int .i64 d, .int .i64 e]] w fun en w' => en = .returned (.tuple #[.int .i64 (atS l d e).1, .bool (atS l d e).2]) ∧ Below w.heap.size w w' := by
  go_enter Try.func23, Try.ntmps23
  go_wp2_with fail
  have hb0 : Below w.heap.size w (w.alloc (.cells #[.int .i64 d, .int .i64 e] 47)) := (Below.refl _ _).alloc (Nat.le_refl _) _
  obtain ⟨c0, c1, _, _, hg⟩ := two_cells (heap_alloc_new w (.cells #[.int .i64 d, .int .i64 e] 47))
  refine (find_any v l w.heap.size d e _ (h.keep hb0 (Nat.le_refl _)) hl c0 c1 hg).mono ?_
  rintro en w1 ⟨rfl, hb1⟩
  have hb2 := hb0.trans (hb1.mono hb0.size)
  clear hb0 hb1 c0 c1 hg
  go_wp2
  go_ret2
  exact ⟨rfl, hb2⟩

/-- Where the pair lies, if it is there. -/
theorem atS_get (l : List En) (d e : Int) : getL l d e = if (atS l d e).2 then (l.getD (atS l d e).1 (0, 0, 0)).2.2 else 0 := by
  induction l with
  | nil => rfl
  | cons x t ih =>
    unfold getL atS
    by_cases h : ltP x (d, e, 0)
    · simp only [if_pos h, ih, List.getD_cons_succ]
    · simp only [if_neg h]
      by_cases hq : eqP x (d, e, 0) <;> simp [hq]
theorem atS_lt (l : List En) (d e : Int) : (atS l d e).1 ≤ l.length ∧ ((atS l d e).2 = true → (atS l d e).1 < l.length) := by
  induction l with
  | nil => simp [atS]
  | cons x t ih =>
    unfold atS
    by_cases h : ltP x (d, e, 0)
    · simp only [if_pos h, List.length_cons]
      exact ⟨by omega, fun hh => by have := ih.2 hh; omega⟩
    · simp [h]

set_option maxHeartbeats 1000000 in
/-- vector.Get. -/
theorem get_any (v : Value) (l : List En) (d e : Int) (w : World) (h : SlE w v l) (hl : l.length < 1000000) :
    Calls Try.prog 11 #[v, .int .i64 d, .int .i64 e] w fun en w' => en = .returned (.int .i64 (getL l d e)) ∧ Below w.heap.size w w' := by
  have HG := Lib.hid (atS_get l d e)
  have HLT := Lib.hid (atS_lt l d e)
  have HC := Lib.hid (at_any v l d e w h hl)
  obtain ⟨ao, cap, rfl, hcap, hm⟩ := Sl.shape h
  rcases hat : atS l d e with ⟨i, b⟩
  rw [hat] at HG HLT HC
  clear hat
  cases b with
  | false =>
    go_enter Try.func11, Try.ntmps11
    go_wp2_with fail
    refine HC.out.mono ?_
    rintro en w1 ⟨rfl, hb1⟩
    go_wp2
    go_ret
    exact ⟨ret_int (by rw [HG.out]; rfl), hb1⟩
  | true =>
    have hi := HLT.out.2 rfl
    simp only at hi
    go_enter Try.func11, Try.ntmps11
    go_wp2_with fail
    refine HC.out.mono ?_
    rintro en w1 ⟨rfl, hb1⟩
    obtain ⟨b, off, rfl, hbl, hc1, hc2, hc3⟩ := h.three hb1 (Nat.le_refl _) i hi
    have HG2 : Hid (getL l d e = l[i].2.2) := by show _ = _; rw [HG.out]; simp [hi]
    clear HG HC HLT
    generalize l[i] = r at *
    go_wp2
    go_ret
    exact ⟨ret_int HG2.out.symm, hb1⟩

end Go.Proofs.Ytlejcnobicbeoaa
