/- The walk of the law VectorJoined. -/
import Derived.Test.YtlejcnobicbeoaaVLawA
namespace Go.Proofs.Ytlejcnobicbeoaa
open Go.RowKit

/-- Has, wherever it is asked behind a world. -/
theorem has_behind {w0 : World} {v : Value} {l : List En} (h : SlE w0 v l) (hl : l.length < 1000000) (d e s : Int) (b : Bool) (hb : hasL l d e s = b) :
    ∀ W, Below w0.heap.size w0 W → Calls Try.prog 12 #[v, .agg #[.int .i64 d, .int .i64 e, .int .i64 s]] W fun en w' => en = .returned (.bool b) ∧ Below w0.heap.size w0 w' := by
  intro W hW
  subst hb
  exact (has_any v l d e s W (h.keep hW (Nat.le_refl _)) hl).mono fun _ _ ⟨h1, h2⟩ => ⟨h1, hW.trans (h2.mono hW.size)⟩

theorem cell_behind {w0 : World} {a : Addr} {x : Value} (h : w0.cell? a = some x) (hB : a.block < w0.heap.size) : ∀ W, Below w0.heap.size w0 W → W.cell? a = some x := by
  intro W hW
  rw [hW.cell hB]; exact h

set_option maxRecDepth 100000 in
set_option maxHeartbeats 4000000 in
theorem joined_walk (v v' : Value) (ns ns' : List Int) (w : World) (h : SlI w v ns) (h' : SlI w v' ns') (hI : I64 ns) (hI' : I64 ns') :
    Calls Try.prog 4 #[v, v'] w fun e w' => e = .returned (.bool true) ∧ Below w.heap.size w w' := by
  have hok := ofS_ok ns
  have hok' := ofS_ok ns'
  have hlen := ofS_len ns
  have hlen' := ofS_len ns'
  go_enter Try.func4, Try.ntmps4
  go_wp2_with fail
  refine (known_any _).mono ?_
  rintro e w0 ⟨rfl, hb0⟩
  go_wp2_with fail
  refine (of_any _ _ _ (h.keep hb0 (Nat.le_refl _)) hI).mono ?_
  rintro e w1 ⟨va, rfl, hsa, hb1⟩
  have hbw := hb0.trans (hb1.mono hb0.size)
  clear hb0 hb1 h
  go_wp2_with fail
  refine (of_any _ _ _ (h'.keep hbw (Nat.le_refl _)) hI').mono ?_
  rintro e w2 ⟨vb, rfl, hsb, hb2⟩
  have hsa2 := hsa.keep hb2 (Nat.le_refl _)
  have hbw2 := hbw.trans (hb2.mono hbw.size)
  clear hb2 hsa hbw h'
  generalize ofS ns = l at *
  generalize ofS ns' = l' at *
  go_wp2_with fail
  refine (join_any _ _ l l' _ hsa2 hsb (by omega)).mono ?_
  rintro e w3 ⟨vj, rfl, hsj, hb3⟩
  have hsa3 := hsa2.keep hb3 (Nat.le_refl _)
  have hsb3 := hsb.keep hb3 (Nat.le_refl _)
  have hbw3 := hbw2.trans (hb3.mono hbw2.size)
  have hz3 := hbw3.size
  clear hb3 hsa2 hsb hbw2
  have hjlen := joinS_len l l'
  have HH : Hid (∀ d e s, 1 ≤ s → hasL (joinS l l') d e s = (hasL l d e s || hasL l' d e s)) := by
    intro d e s hs
    rw [hasL_eq (vp_joinS hok.1 hok'.1), hasL_eq hok.1, hasL_eq hok'.1]
    unfold hasV
    rw [get_joinS hok.1 hok'.1, Bool.eq_iff_iff]
    simp [hs]; omega
  generalize joinS l l' = j at *
  clear hok hok'
  go_wp2
  go_loopw [8] (fun vd wr => ∃ d : Int, 0 ≤ d ∧ d ≤ 3 ∧ vd = .int .i64 d ∧ Below w3.heap.size w3 wr) (fun vd _ => (3 - intOf vd).toNat)
  case atStart => exact ⟨0, by omega, by omega, rfl, Below.refl _ _⟩
  case round =>
    obtain ⟨d, hd0, hd4, rfl, hb⟩ := hrel
    rcases Int.lt_or_le d 3 with hlt | hge
    · obtain ⟨wo, rfl⟩ : ∃ wo : World, wo = wr := ⟨_, rfl⟩
      go_wp2
      go_loopw [9] (fun ve wr => ∃ e : Int, 1 ≤ e ∧ e ≤ 3 ∧ ve = .int .i64 e ∧ Below w3.heap.size w3 wr) (fun ve _ => (3 - intOf ve).toNat)
      case atStart => exact ⟨1, by omega, by omega, rfl, hb⟩
      case round =>
        obtain ⟨e, he0, he4, rfl, hb2⟩ := hrel
        clear hb
        rcases Int.lt_or_le e 3 with hlt2 | hge2
        · obtain ⟨wp, rfl⟩ : ∃ wp : World, wp = wr := ⟨_, rfl⟩
          go_wp2
          go_loopw [10] (fun vs wr => ∃ s : Int, 1 ≤ s ∧ s ≤ 7 ∧ vs = .int .i64 s ∧ Below w3.heap.size w3 wr) (fun vs _ => (7 - intOf vs).toNat)
          case atStart => exact ⟨1, by omega, by omega, rfl, hb2⟩
          case round =>
            obtain ⟨s, hs0, hs7, rfl, hb3⟩ := hrel
            clear hb2
            rcases Int.lt_or_le s 7 with hlt3 | hge3
            · have hz := hb3.size
              have hb4 := hb3.alloc hz (.cells #[.int .i64 d, .int .i64 e, .int .i64 s] 30)
              have hnew := heap_alloc_new wr (.cells #[.int .i64 d, .int .i64 e, .int .i64 s] 30)
              obtain ⟨w4, hw4⟩ : ∃ w4, wr.alloc (.cells #[.int .i64 d, .int .i64 e, .int .i64 s] 30) = w4 := ⟨_, rfl⟩
              rw [hw4] at hb4 hnew
              obtain ⟨c0, c1, c2, hbs⟩ := three_cells hnew
              have KS : Hid (∀ W, Below w4.heap.size w4 W → (Below w4.heap.size w4 W ∧ W.cell? ⟨wr.heap.size, 0, none⟩ = some (.int .i64 d) ∧ W.cell? ⟨wr.heap.size, 1, none⟩ = some (.int .i64 e) ∧ W.cell? ⟨wr.heap.size, 2, none⟩ = some (.int .i64 s))) :=
                fun W hW => ⟨hW, cell_behind c0 hbs W hW, cell_behind c1 hbs W hW, cell_behind c2 hbs W hW⟩
              have hj := HH.out d e s hs0
              obtain ⟨bv, hbv⟩ : ∃ b, hasL l d e s = b := ⟨_, rfl⟩
              obtain ⟨bw, hbw⟩ : ∃ b, hasL l' d e s = b := ⟨_, rfl⟩
              rw [hbv, hbw] at hj
              have HV := Lib.hid (has_behind (hsa3.keep hb4 (Nat.le_refl _)) (by omega) d e s bv hbv)
              have HW := Lib.hid (has_behind (hsb3.keep hb4 (Nat.le_refl _)) (by omega) d e s bw hbw)
              have HJ := Lib.hid (has_behind (hsj.keep hb4 (Nat.le_refl _)) (by omega) d e s _ hj)
              clear hbv hbw hj c0 c1 c2 hnew
              have HW4 := Lib.hid hw4
              clear hw4
              cases bv with
              | true =>
                simp only [Bool.true_or] at HJ
                go_upto_region 15 with fail
                rw [HW4.out]
                go_cut [48] (fun v48 wx => v48 = .bool false ∧ Below w4.heap.size w4 wx)
                case first =>
                  have hdr : Below w4.heap.size w4 w4.drew := (Below.refl _ _).drew
                  obtain ⟨_, j0, j1, j2⟩ := KS.out _ (Below.refl _ _)
                  first
                    | (go_region_with (first
                    | (go_at_call 12; (with_reducible refine (HV.out _ (by assumption)).mono ?_); rintro en w9 ⟨rfl, hb9⟩; obtain ⟨_, k0, k1, k2⟩ := KS.out _ hb9)
                    | (go_at_call 12; (with_reducible refine (HJ.out _ (by assumption)).mono ?_); rintro en w9 ⟨rfl, hb9⟩; obtain ⟨_, k0, k1, k2⟩ := KS.out _ hb9)))
                    | fail
                  all_goals
                    go_wp2
                    go_meet
                    exact ⟨rfl, by first | assumption | exact (Below.refl _ _).drew⟩
                case rest =>
                obtain ⟨rfl, hb9⟩ := hcut
                go_wp2
                go_roundw
                case rel => exact ⟨s + 1, by omega, by omega, rfl, hb4.trans (hb9.mono hb4.size)⟩
                case measure => simp [intOf]; omega
              | false =>
                simp only [Bool.false_or] at HJ
                go_upto_region 15 with fail
                rw [HW4.out]
                go_cut [48] (fun v48 wx => v48 = .bool false ∧ Below w4.heap.size w4 wx)
                case first =>
                  first
                    | (go_region_held3 (fun w' => Below w4.heap.size w4 w' ∧ w'.cell? ⟨wr.heap.size, 0, none⟩ = some (.int .i64 d) ∧ w'.cell? ⟨wr.heap.size, 1, none⟩ = some (.int .i64 e) ∧ w'.cell? ⟨wr.heap.size, 2, none⟩ = some (.int .i64 s))
                        (first | assumption | exact KS.out _ (by assumption) | exact KS.out _ (Below.refl _ _).drew)
                        (first
                          | (go_at_call 12; (with_reducible refine (HV.out _ (by go_split_ands; assumption)).mono ?_); rintro en w9 ⟨rfl, hb9⟩)
                          | (go_at_call 12; (with_reducible refine (HW.out _ (by go_split_ands; assumption)).mono ?_); rintro en w9 ⟨rfl, hb9⟩)
                          | (go_at_call 12; (with_reducible refine (HJ.out _ (by go_split_ands; assumption)).mono ?_); rintro en w9 ⟨rfl, hb9⟩)))
                    | fail
                  all_goals
                    go_wp2
                    go_meet
                    exact ⟨rfl, by first | assumption | exact (Below.refl _ _).drew⟩
                case rest =>
                obtain ⟨rfl, hb9⟩ := hcut
                go_wp2
                go_roundw
                case rel => exact ⟨s + 1, by omega, by omega, rfl, hb4.trans (hb9.mono hb4.size)⟩
                case measure => simp [intOf]; omega
            · have dk : decide (s < 7) = false := by simpa using hge3
              go_wp2
              go_roundw
              case rel => exact ⟨e + 1, by omega, by omega, rfl, hb3⟩
              case measure => simp [intOf]; omega
        · have dk : decide (e < 3) = false := by simpa using hge2
          go_wp2
          go_roundw
          case rel => exact ⟨d + 1, by omega, by omega, rfl, hb2⟩
          case measure => simp [intOf]; omega
    · have dk : decide (d < 3) = false := by simpa using hge
      go_wp2
      go_ret
      exact ⟨rfl, hbw3.trans (hb.mono hz3)⟩

end Go.Proofs.Ytlejcnobicbeoaa
