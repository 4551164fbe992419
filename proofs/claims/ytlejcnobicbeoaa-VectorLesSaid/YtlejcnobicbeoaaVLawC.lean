/- The walk of the law VectorLes. -/
import Derived.Test.YtlejcnobicbeoaaVLawB
namespace Go.Proofs.Ytlejcnobicbeoaa
open Go.RowKit

def lesP (v w : List En) (d e s : Int) : Bool := !hasV v d e s || hasV w d e s
def lexB (d' e' s' d e s : Int) : Prop := d' < d ∨ (d' = d ∧ (e' < e ∨ (e' = e ∧ s' < s)))
def Upto (v w : List En) (d e s : Int) (b : Bool) : Prop := b = true ↔ ∀ d' e' s', 0 ≤ d' → d' < 3 → 1 ≤ e' → e' < 3 → 1 ≤ s' → s' < 7 → lexB d' e' s' d e s → lesP v w d' e' s' = true

theorem upto_start (v w : List En) : Upto v w 0 1 1 true := by
  unfold Upto lexB
  constructor
  · intro _ d' e' s' _ _ _ _ _ _ h; omega
  · intro _; rfl
theorem upto_s {v w : List En} {d e s : Int} {b : Bool} (hd : 0 ≤ d ∧ d < 3) (he : 1 ≤ e ∧ e < 3) (hs : 1 ≤ s ∧ s < 7) (h : Upto v w d e s b) : Upto v w d e (s + 1) (b && lesP v w d e s) := by
  unfold Upto at *
  rw [Bool.and_eq_true, h]
  constructor
  · rintro ⟨h1, h2⟩ d' e' s' a1 a2 a3 a4 a5 a6 hl
    by_cases hh : d' = d ∧ e' = e ∧ s' = s
    · obtain ⟨rfl, rfl, rfl⟩ := hh; exact h2
    · exact h1 d' e' s' a1 a2 a3 a4 a5 a6 (by unfold lexB at *; omega)
  · intro h1
    exact ⟨fun d' e' s' a1 a2 a3 a4 a5 a6 hl => h1 d' e' s' a1 a2 a3 a4 a5 a6 (by unfold lexB at *; omega), h1 d e s hd.1 hd.2 he.1 he.2 hs.1 hs.2 (by unfold lexB; omega)⟩
theorem upto_e {v w : List En} {d e : Int} {b : Bool} (h : Upto v w d e 7 b) : Upto v w d (e + 1) 1 b := by
  unfold Upto at *
  rw [h]
  constructor
  · intro h1 d' e' s' a1 a2 a3 a4 a5 a6 hl
    exact h1 d' e' s' a1 a2 a3 a4 a5 a6 (by unfold lexB at *; omega)
  · intro h1 d' e' s' a1 a2 a3 a4 a5 a6 hl
    exact h1 d' e' s' a1 a2 a3 a4 a5 a6 (by unfold lexB at *; omega)
theorem upto_d {v w : List En} {d : Int} {b : Bool} (h : Upto v w d 3 1 b) : Upto v w (d + 1) 1 1 b := by
  unfold Upto at *
  rw [h]
  constructor
  · intro h1 d' e' s' a1 a2 a3 a4 a5 a6 hl
    exact h1 d' e' s' a1 a2 a3 a4 a5 a6 (by unfold lexB at *; omega)
  · intro h1 d' e' s' a1 a2 a3 a4 a5 a6 hl
    exact h1 d' e' s' a1 a2 a3 a4 a5 a6 (by unfold lexB at *; omega)
theorem upto_end {v w : List En} {b : Bool} (hv : VP v) (hw : VP w) (sv : Sm v) (h : Upto v w 3 1 1 b) : leV v w = b := by
  unfold Upto at h
  rw [Bool.eq_iff_iff, leV_iff hv hw, h]
  constructor
  · intro h1 d e s _ _ _ _ a5 a6 _
    have := h1 d e
    unfold lesP hasV
    by_cases hs : s ≤ getV v d e
    · have : s ≤ getV w d e := by omega
      simp [a5, this]
    · simp [a5, hs]
  · intro h1 d e
    obtain ⟨b1, b2⟩ := sv.get d e
    by_cases h0 : getV v d e = 0
    · rw [h0]; exact getV_pos hw d e
    · have hr : 0 ≤ d ∧ d < 3 ∧ 1 ≤ e ∧ e < 3 := by
        by_cases hh : 0 ≤ d ∧ d < 3 ∧ 1 ≤ e ∧ e < 3
        · exact hh
        · exact absurd (b2 hh) h0
      have h3 := getV_pos hv d e
      have h2 := h1 d e (getV v d e) hr.1 hr.2.1 hr.2.2.1 hr.2.2.2 (by omega) (by omega) (by unfold lexB; omega)
      unfold lesP hasV at h2
      have h4 : (1 : Int) ≤ getV v d e := by omega
      simp [h4] at h2
      exact h2

theorem leV_nil (v : List En) : leV [] v = true := rfl
theorem leV_nil' {v : List En} (h : VP v) : leV v [] = decide (v.length = 0) := by
  cases v with
  | nil => rfl
  | cons x t =>
    have := ((vp_cons x t).1 h).1
    have h1 : ¬ x.2.2 ≤ 0 := by omega
    simp [leV, getV, h1]

/-- Le, wherever it is asked behind a world. -/
theorem le_behind {w0 : World} {v v' : Value} {l l' : List En} (h : SlE w0 v l) (h' : SlE w0 v' l') (hl : l'.length < 1000000) (b : Bool) (hb : leL l l' = b) :
    ∀ W, Below w0.heap.size w0 W → Calls Try.prog 16 #[v, v'] W fun en w' => en = .returned (.bool b) ∧ Below w0.heap.size w0 w' := by
  intro W hW
  subst hb
  exact (le_any v v' l l' W (h.keep hW (Nat.le_refl _)) (h'.keep hW (Nat.le_refl _)) hl).mono fun _ _ ⟨h1, h2⟩ => ⟨h1, hW.trans (h2.mono hW.size)⟩

set_option maxRecDepth 100000 in
set_option maxHeartbeats 4000000 in
theorem les_walk (v v' : Value) (ns ns' : List Int) (w : World) (h : SlI w v ns) (h' : SlI w v' ns') (hI : I64 ns) (hI' : I64 ns') :
    Calls Try.prog 6 #[v, v'] w fun e w' => e = .returned (.bool true) ∧ Below w.heap.size w w' := by
  have hok := ofS_ok ns
  have hok' := ofS_ok ns'
  have hlen := ofS_len ns
  have hlen' := ofS_len ns'
  go_enter Try.func6, Try.ntmps6
  go_wp2_with fail
  refine (known_any _).mono ?_
  rintro e w0 ⟨rfl, hb0⟩
  go_wp2_with fail
  refine (of_any _ _ _ (h.keep hb0 (Nat.le_refl _)) hI).mono ?_
  rintro e w1 ⟨va, rfl, hsa, hb1⟩
  have hbw := hb0.trans (hb1.mono hb0.size)
  clear hb0 hb1 h
  go_wp2_with fail
  refine (of_any _ _ _ (h'.keep hbw (Nat.le_refl _)) hI').mono ?_
  rintro e w3 ⟨vb, rfl, hsb3, hb2⟩
  have hsa3 := hsa.keep hb2 (Nat.le_refl _)
  have hbw3 := hbw.trans (hb2.mono hbw.size)
  have hz3 := hbw3.size
  clear hb2 hsa hbw h'
  generalize ofS ns = l at *
  generalize ofS ns' = l' at *
  have HH : Hid (∀ d e s, hasL l d e s = hasV l d e s ∧ hasL l' d e s = hasV l' d e s) := fun d e s => ⟨hasL_eq hok.1 d e s, hasL_eq hok'.1 d e s⟩
  have HE : Hid (∀ b, Upto l l' 3 1 1 b → leL l l' = b) := fun b hb => by rw [leL_eq hok'.1]; exact upto_end hok.1 hok'.1 hok.2 hb
  have HN : Hid (leL [] l = true) := rfl
  have HN' : Hid (leL l [] = decide (l.length = 0)) := by show _ = _; rw [leL_eq vp_nil]; exact leV_nil' hok.1
  clear hok hok'
  go_upto_block 0 with fail
  go_cut [7] (fun vb wx => ∃ b : Bool, vb = .bool b ∧ Upto l l' 3 1 1 b ∧ Below w3.heap.size w3 wx)
  case first =>
    go_wp2
    go_loopw [7, 8] (fun vb vd wr => ∃ (b : Bool) (d : Int), 0 ≤ d ∧ d ≤ 3 ∧ vd = .int .i64 d ∧ vb = .bool b ∧ Upto l l' d 1 1 b ∧ Below w3.heap.size w3 wr) (fun _ vd _ => (3 - intOf vd).toNat)
    case atStart => exact ⟨true, 0, by omega, by omega, rfl, rfl, upto_start l l', Below.refl _ _⟩
    case round =>
      obtain ⟨b, d, hd0, hd4, rfl, rfl, hu, hb⟩ := hrel
      rcases Int.lt_or_le d 3 with hlt | hge
      · obtain ⟨wo, rfl⟩ : ∃ wo : World, wo = wr := ⟨_, rfl⟩
        go_wp2
        go_loopw [7, 9] (fun vb ve wr => ∃ (b : Bool) (e : Int), 1 ≤ e ∧ e ≤ 3 ∧ ve = .int .i64 e ∧ vb = .bool b ∧ Upto l l' d e 1 b ∧ Below w3.heap.size w3 wr) (fun _ ve _ => (3 - intOf ve).toNat)
        case atStart => exact ⟨b, 1, by omega, by omega, rfl, rfl, hu, hb⟩
        case round =>
          clear hu hb
          obtain ⟨b, e, he0, he4, rfl, rfl, hu, hb⟩ := hrel
          rcases Int.lt_or_le e 3 with hlt2 | hge2
          · obtain ⟨wp, rfl⟩ : ∃ wp : World, wp = wr := ⟨_, rfl⟩
            go_wp2
            go_loopw [7, 10] (fun vb vs wr => ∃ (b : Bool) (s : Int), 1 ≤ s ∧ s ≤ 7 ∧ vs = .int .i64 s ∧ vb = .bool b ∧ Upto l l' d e s b ∧ Below w3.heap.size w3 wr) (fun _ vs _ => (7 - intOf vs).toNat)
            case atStart => exact ⟨b, 1, by omega, by omega, rfl, rfl, hu, hb⟩
            case round =>
              clear hu hb
              obtain ⟨b, s, hs0, hs7, rfl, rfl, hu, hb⟩ := hrel
              rcases Int.lt_or_le s 7 with hlt3 | hge3
              · have hz := hb.size
                have hb4 := hb.alloc hz (.cells #[.int .i64 d, .int .i64 e, .int .i64 s] 30)
                have HU := Lib.hid (upto_s ⟨hd0, hlt⟩ ⟨he0, hlt2⟩ ⟨hs0, hlt3⟩ hu)
                clear hu
                cases b with
                | false =>
                  go_wp2
                  go_roundw
                  case rel => exact ⟨false, s + 1, by omega, by omega, rfl, rfl, HU.out, hb4⟩
                  case measure => simp [intOf]; omega
                | true =>
                  have hnew := heap_alloc_new wr (.cells #[.int .i64 d, .int .i64 e, .int .i64 s] 30)
                  obtain ⟨w4, hw4⟩ : ∃ w4, wr.alloc (.cells #[.int .i64 d, .int .i64 e, .int .i64 s] 30) = w4 := ⟨_, rfl⟩
                  rw [hw4] at hb4 hnew
                  obtain ⟨c0, c1, c2, hbs⟩ := three_cells hnew
                  have k0 := Lib.hid (cell_behind c0 hbs)
                  have k1 := Lib.hid (cell_behind c1 hbs)
                  have k2 := Lib.hid (cell_behind c2 hbs)
                  obtain ⟨bv, hbv⟩ : ∃ b, hasL l d e s = b := ⟨_, rfl⟩
                  obtain ⟨bw, hbw⟩ : ∃ b, hasL l' d e s = b := ⟨_, rfl⟩
                  have HV := Lib.hid (has_behind (hsa3.keep hb4 (Nat.le_refl _)) (by omega) d e s bv hbv)
                  have HW := Lib.hid (has_behind (hsb3.keep hb4 (Nat.le_refl _)) (by omega) d e s bw hbw)
                  have HP : Hid (lesP l l' d e s = (!bv || bw)) := by
                    show _ = _
                    rw [lesP, ← (HH.out d e s).1, ← (HH.out d e s).2, hbv, hbw]
                  clear hbv hbw hnew
                  have HW4 := Lib.hid hw4
                  clear hw4
                  go_upto_region 15 with fail
                  rw [HW4.out]
                  go_wp2_with fail
                  refine (HV.out _ (Below.refl _ _)).mono ?_
                  rintro en w5 ⟨rfl, hb5⟩
                  cases bv with
                  | false =>
                    go_wp2
                    go_roundw
                    case rel => exact ⟨true, s + 1, by omega, by omega, rfl, rfl, by have := HU.out; rw [HP.out] at this; simpa using this, hb4.trans (hb5.mono hb4.size)⟩
                    case measure => simp [intOf]; omega
                  | true =>
                    have k0' := k0.out _ hb5
                    have k1' := k1.out _ hb5
                    have k2' := k2.out _ hb5
                    go_wp2_with fail
                    refine (HW.out _ hb5).mono ?_
                    rintro en w6 ⟨rfl, hb6⟩
                    go_wp2
                    go_roundw
                    case rel => exact ⟨bw, s + 1, by omega, by omega, rfl, rfl, by have := HU.out; rw [HP.out] at this; simpa using this, hb4.trans (hb6.mono hb4.size)⟩
                    case measure => simp [intOf]; omega
              · have dk : decide (s < 7) = false := by simpa using hge3
                have hs : s = 7 := by omega
                subst hs
                go_wp2
                go_roundw
                case rel => exact ⟨b, e + 1, by omega, by omega, rfl, rfl, upto_e hu, hb⟩
                case measure => simp [intOf]; omega
          · have dk : decide (e < 3) = false := by simpa using hge2
            have hs : e = 3 := by omega
            subst hs
            go_wp2
            go_roundw
            case rel => exact ⟨b, d + 1, by omega, by omega, rfl, rfl, upto_d hu, hb⟩
            case measure => simp [intOf]; omega
      · have dk : decide (d < 3) = false := by simpa using hge
        have hs : d = 3 := by omega
        subst hs
        go_wp2
        go_meet
        exact ⟨b, rfl, hu, hb⟩
  case rest =>
  obtain ⟨b, rfl, hu, hb⟩ := hcut
  have hq := HE.out b hu
  have HL := Lib.hid (le_behind (hsa3.keep hb (Nat.le_refl _)) (hsb3.keep hb (Nat.le_refl _)) (by omega) b hq)
  have HL1 := Lib.hid (le_behind (SlE.nil wc) (hsa3.keep hb (Nat.le_refl _)) (by omega) true HN.out)
  have HL2 := Lib.hid (le_behind (hsa3.keep hb (Nat.le_refl _)) (SlE.nil wc) (by decide) _ HN'.out)
  obtain ⟨aoa, capa, rfl, hcapa, hma⟩ := Sl.shape hsa3
  clear hu hq HN HN' HE HH
  go_wp2_with fail
  refine (HL.out _ (Below.refl _ _)).mono ?_
  rintro en w5 ⟨rfl, hb5⟩
  go_wp2_with fail
  refine (HL1.out _ hb5).mono ?_
  rintro en w6 ⟨rfl, hb6⟩
  go_wp2_with fail
  refine (HL2.out _ hb6).mono ?_
  rintro en w7 ⟨rfl, hb7⟩
  have hb8 := hbw3.trans ((hb.trans (hb7.mono hb.size)).mono hz3)
  by_cases h0 : l.length = 0
  · have d1 : decide (l.length = 0) = true := by simpa using h0
    have HF : Hid (((l.length : Int) == 0) = true) := by show _ = _; simp only [beq_iff_eq]; omega
    have HFF := HF.out
    have H9 := Lib.hid (List.eq_nil_of_length_eq_zero h0)
    clear h0
    go_wp2
    go_ret
    exact ⟨by simp [H9.out], hb8⟩
  · have d1 : decide (l.length = 0) = false := by simpa using h0
    have HFF : ((l.length : Int) == 0) = false := by rw [beq_eq_false_iff_ne]; omega
    have H9 : Hid (¬ l = []) := fun hh => h0 (by rw [hh]; rfl)
    clear h0
    go_wp2
    go_ret
    exact ⟨by simp [H9.out], hb8⟩

end Go.Proofs.Ytlejcnobicbeoaa
