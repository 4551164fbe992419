/- The walk of the law VectorHas. -/
import Derived.Test.YtlejcnobicbeoaaVWkI
namespace Go.Proofs.Ytlejcnobicbeoaa
open Go.RowKit

def lastF (d e : Int) (n : Int) (x : En) : Int := if x.1 = d ∧ x.2.1 = e then x.2.2 else n
def lastV (l : List En) (d e : Int) : Int := l.foldl (lastF d e) 0
theorem last_fold {l : List En} (h : VP l) (d e n : Int) : l.foldl (lastF d e) n = if getV l d e = 0 then n else getV l d e := by
  induction l generalizing n with
  | nil => rfl
  | cons x t ih =>
    obtain ⟨h1, h2, h3⟩ := (vp_cons x t).1 h
    rw [List.foldl_cons, ih h3]
    by_cases hp : x.1 = d ∧ x.2.1 = e
    · have hz : getV t d e = 0 := getV_tail_zero h d e (by unfold ltP; simp only; omega)
      have hg : getV (x :: t) d e = x.2.2 := by rw [getV, if_pos hp]
      rw [hz, hg, if_pos rfl, if_neg (by omega), lastF, if_pos hp]
    · have hg : getV (x :: t) d e = getV t d e := by rw [getV, if_neg hp]
      rw [hg, lastF, if_neg hp]
theorem lastV_eq {l : List En} (h : VP l) (d e : Int) : lastV l d e = getV l d e := by
  unfold lastV
  rw [last_fold h]
  split
  · rename_i hz; exact hz.symm
  · rfl
theorem lastV_step (l : List En) (k : Nat) (hk : k < l.length) (d e : Int) : lastV (l.take (k + 1)) d e = lastF d e (lastV (l.take k) d e) l[k] := by
  unfold lastV
  rw [take_snocE l k hk, List.foldl_append]; rfl

set_option maxRecDepth 100000 in
set_option maxHeartbeats 4000000 in
theorem has_walk (v : Value) (ns : List Int) (w : World) (h : SlI w v ns) (hI : I64 ns) :
    Calls Try.prog 3 #[v] w fun e w' => e = .returned (.bool true) ∧ Below w.heap.size w w' := by
  have hok := ofS_ok ns
  have hlen := ofS_len ns
  go_enter Try.func3, Try.ntmps3
  go_wp2_with fail
  refine (known_any _).mono ?_
  rintro e w0 ⟨rfl, hb0⟩
  go_wp2_with fail
  refine (of_any _ _ _ (h.keep hb0 (Nat.le_refl _)) hI).mono ?_
  rintro e w1 ⟨va, rfl, hsa, hb1⟩
  have hbw := hb0.trans (hb1.mono hb0.size)
  clear hb0 hb1 h
  generalize ofS ns = l at *
  obtain ⟨ao, cap, rfl, hcap, hm⟩ := Sl.shape hsa
  have hlen2 : l.length < 1000000 := by omega
  have HOK := Lib.hid hok
  clear hok
  have hz0 := hbw.size
  go_wp2
  go_loopw [4] (fun vd wr => ∃ d : Int, 0 ≤ d ∧ d ≤ 4 ∧ vd = .int .i64 d ∧ Below w1.heap.size w1 wr) (fun vd _ => (4 - intOf vd).toNat)
  case atStart => exact ⟨0, by omega, by omega, rfl, Below.refl _ _⟩
  case round =>
    obtain ⟨d, hd0, hd4, rfl, hb⟩ := hrel
    rcases Int.lt_or_le d 4 with hlt | hge
    · obtain ⟨wo, rfl⟩ : ∃ wo : World, wo = wr := ⟨_, rfl⟩
      go_wp2
      go_loopw [5] (fun ve wr => ∃ e : Int, 0 ≤ e ∧ e ≤ 4 ∧ ve = .int .i64 e ∧ Below w1.heap.size w1 wr) (fun ve _ => (4 - intOf ve).toNat)
      case atStart => exact ⟨0, by omega, by omega, rfl, hb⟩
      case round =>
        obtain ⟨e, he0, he4, rfl, hb2⟩ := hrel
        clear hb
        rcases Int.lt_or_le e 4 with hlt2 | hge2
        · obtain ⟨wp, rfl⟩ : ∃ wp : World, wp = wr := ⟨_, rfl⟩
          go_wp2
          go_loopw [6, 7] (fun vn vi wr => ∃ k : Nat, k ≤ l.length ∧ vi = .int .i64 k ∧ vn = .int .i64 (lastV (l.take k) d e) ∧ Below w1.heap.size w1 wr) (fun _ vi _ => l.length - (intOf vi).toNat)
          case atStart => exact ⟨0, Nat.zero_le _, rfl, rfl, hb2⟩
          case round =>
            obtain ⟨k, hk, rfl, rfl, hb3⟩ := hrel
            clear hb2
            rcases Nat.lt_or_ge k l.length with hlt3 | hge3
            · obtain ⟨b, off, rfl, hbl, hc1, hc2, hc3⟩ := hsa.three hb3 (Nat.le_refl _) k hlt3
              have HS := Lib.hid (lastV_step l k hlt3 d e)
              generalize lastV (l.take k) d e = n at *
              generalize l[k] = r at *
              obtain ⟨x, y, z⟩ := r
              simp only at hc1 hc2 hc3
              by_cases h1 : x = d
              · subst h1
                by_cases h2 : y = e
                · subst h2
                  have HF : Hid (lastV (l.take (k + 1)) x y = z) := by show _ = _; rw [HS.out, lastF, if_pos ⟨rfl, rfl⟩]
                  clear HS
                  go_wp2
                  go_roundw
                  case rel => exact ⟨k + 1, by omega, by go_num, by rw [HF.out], hb3⟩
                  case measure => simp [intOf]; omega
                · have e2 : (y == e) = false := by simpa using h2
                  have HF : Hid (lastV (l.take (k + 1)) x e = n) := by show _ = _; rw [HS.out, lastF, if_neg (fun hh => h2 hh.2)]
                  clear HS h2
                  go_wp2
                  go_roundw
                  case rel => exact ⟨k + 1, by omega, by go_num, by rw [HF.out], hb3⟩
                  case measure => simp [intOf]; omega
              · have e2 : (x == d) = false := by simpa using h1
                have HF : Hid (lastV (l.take (k + 1)) d e = n) := by show _ = _; rw [HS.out, lastF, if_neg (fun hh => h1 hh.1)]
                clear HS h1
                go_wp2
                go_roundw
                case rel => exact ⟨k + 1, by omega, by go_num, by rw [HF.out], hb3⟩
                case measure => simp [intOf]; omega
            · have hjf : lastV (l.take k) d e = getL l d e := by rw [List.take_of_length_le hge3, lastV_eq HOK.out.1, getL_eq HOK.out.1]
              rw [hjf]
              have hss := hsa.keep hb3 (Nat.le_refl _)
              have HC := Lib.hid (get_any _ l d e _ hss hlen2)
              have HHC : Hid (∀ s w', SlE w' (.slice ao l.length cap) l → Calls Try.prog 12 #[.slice ao l.length cap, .agg #[.int .i64 d, .int .i64 e, .int .i64 s]] w' fun en w'' => en = .returned (.bool (decide (1 ≤ s) && decide (s ≤ getL l d e))) ∧ Below w'.heap.size w' w'') := fun s w' hh => has_any _ l d e s w' hh hlen2
              generalize getL l d e = n at *
              clear hjf
              go_wp2_with fail
              refine HC.out.mono ?_
              rintro en w4 ⟨rfl, hb4⟩
              have hb5 := hb3.trans (hb4.mono hb3.size)
              clear hb4 hb3 HC hss
              go_wp2
              go_loopw [8] (fun vs wr => ∃ s : Int, -1 ≤ s ∧ s ≤ 8 ∧ vs = .int .i64 s ∧ Below w1.heap.size w1 wr) (fun vs _ => (8 - intOf vs).toNat)
              case atStart => exact ⟨-1, by omega, by omega, rfl, hb5⟩
              case round =>
                obtain ⟨s, hs0, hs8, rfl, hb6⟩ := hrel
                clear hb5
                rcases Int.lt_or_le s 8 with hlt4 | hge4
                · have HC := Lib.hid (HHC.out s wr (hsa.keep hb6 (Nat.le_refl _)))
                  by_cases h1 : 1 ≤ s
                  · by_cases h2 : s ≤ n
                    · have d2 : decide (s ≤ n) = true := by simpa using h2
                      have d1 : decide (1 ≤ s) = true := by simpa using h1
                      rw [d1, d2] at HC
                      go_wp2_with fail
                      refine HC.out.mono ?_
                      rintro en w7 ⟨rfl, hb7⟩
                      have hb8 := hb6.trans (hb7.mono hb6.size)
                      clear HC hb7
                      go_wp2
                      go_roundw
                      case rel => exact ⟨s + 1, by omega, by omega, rfl, hb8⟩
                      case measure => simp [intOf]; omega
                    · have d2 : decide (s ≤ n) = false := by simpa using h2
                      have d1 : decide (1 ≤ s) = true := by simpa using h1
                      rw [d1, d2] at HC
                      clear h2
                      go_wp2_with fail
                      refine HC.out.mono ?_
                      rintro en w7 ⟨rfl, hb7⟩
                      have hb8 := hb6.trans (hb7.mono hb6.size)
                      clear HC hb7
                      go_wp2
                      go_roundw
                      case rel => exact ⟨s + 1, by omega, by omega, rfl, hb8⟩
                      case measure => simp [intOf]; omega
                  · have d1 : decide (1 ≤ s) = false := by simpa using h1
                    rw [d1] at HC
                    clear h1
                    simp only [Bool.false_and] at HC
                    go_wp2_with fail
                    refine HC.out.mono ?_
                    rintro en w7 ⟨rfl, hb7⟩
                    have hb8 := hb6.trans (hb7.mono hb6.size)
                    clear HC hb7
                    go_wp2
                    go_roundw
                    case rel => exact ⟨s + 1, by omega, by omega, rfl, hb8⟩
                    case measure => simp [intOf]; omega
                · have dk : decide (s < 8) = false := by simpa using hge4
                  go_wp2
                  go_roundw
                  case rel => exact ⟨e + 1, by omega, by omega, rfl, hb6⟩
                  case measure => simp [intOf]; omega
        · have dk : decide (e < 4) = false := by simpa using hge2
          go_wp2
          go_roundw
          case rel => exact ⟨d + 1, by omega, by omega, rfl, hb2⟩
          case measure => simp [intOf]; omega
    · have dk : decide (d < 4) = false := by simpa using hge
      go_wp2
      go_ret
      exact ⟨rfl, hbw.trans (hb.mono hz0)⟩

end Go.Proofs.Ytlejcnobicbeoaa
