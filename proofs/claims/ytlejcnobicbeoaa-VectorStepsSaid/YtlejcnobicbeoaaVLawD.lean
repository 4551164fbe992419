/- The walk of the law VectorSteps. -/
import Derived.Test.YtlejcnobicbeoaaVLawC
namespace Go.Proofs.Ytlejcnobicbeoaa
open Go.RowKit

/-- What a step leaves. -/
theorem step_facts {l : List En} (hl : VP l) {d e s : Int} (hd : 0 ≤ d) (he : 0 ≤ e) (hs : 1 ≤ s) (hh : hasL l d e s = false) :
    stepS l d e s = (joinS l [(d, e, s)], 0) ∧ VP (joinS l [(d, e, s)]) ∧ leL l (joinS l [(d, e, s)]) = true ∧ leL (joinS l [(d, e, s)]) l = false ∧ hasL (joinS l [(d, e, s)]) d e s = true ∧ stepS (joinS l [(d, e, s)]) d e s = ([], 7) ∧ getL (joinS l [(d, e, s)]) d e = s := by
  have h1 : VP [(d, e, s)] := vp_one hs
  have h2 := vp_joinS hl h1
  have h3 : getV l d e < s := hasV_false (by rw [← hasL_eq hl]; exact hh) hs
  have h4 : getV (joinS l [(d, e, s)]) d e = s := by
    rw [get_joinS hl h1, show getV [(d, e, s)] d e = s by simp [getV]]; omega
  have h5 : hasL (joinS l [(d, e, s)]) d e s = true := by rw [hasL_eq h2]; simp [hasV, hs, h4]
  have hc : ¬ (d < 0 ∨ e < 0 ∨ s < 1) := by omega
  refine ⟨?_, h2, ?_, ?_, h5, ?_, by rw [getL_eq h2, h4]⟩
  · rw [stepS, if_neg hc, hh]; rfl
  · rw [leL_eq h2]; exact le_join_left hl h1
  · rw [leL_eq hl, ← Bool.not_eq_true, leV_iff h2 hl]
    intro hx
    have := hx d e
    omega
  · rw [stepS, if_neg hc, h5]; rfl

theorem vp_sorted {l : List En} (h : VP l) (k : Nat) (hk : k + 1 < l.length) : ltP (l[k]'(by omega)) l[k + 1] := List.pairwise_iff_getElem.1 h.2 k (k + 1) (by omega) hk (by omega)

/-- Get, wherever it is asked behind a world. -/
theorem get_behind {w0 : World} {v : Value} {l : List En} (h : SlE w0 v l) (hl : l.length < 1000000) (d e g : Int) (hg : getL l d e = g) :
    ∀ W, Below w0.heap.size w0 W → Calls Try.prog 11 #[v, .int .i64 d, .int .i64 e] W fun en w' => en = .returned (.int .i64 g) ∧ Below w0.heap.size w0 w' := by
  intro W hW
  subst hg
  exact (get_any v l d e W (h.keep hW (Nat.le_refl _)) hl).mono fun _ _ ⟨h1, h2⟩ => ⟨h1, hW.trans (h2.mono hW.size)⟩

set_option maxRecDepth 100000 in
set_option maxHeartbeats 4000000 in
theorem steps_walk (v : Value) (ns : List Int) (n : Int) (w : World) (h : SlI w v ns) (hI : I64 ns) (hn : -9223372036854775808 ≤ n ∧ n ≤ 9223372036854775807) :
    Calls Try.prog 5 #[v, .int .i64 n] w fun e w' => e = .returned (.bool true) ∧ Below w.heap.size w w' := by
  have hok := ofS_ok ns
  have hlen := ofS_len ns
  have q1 := Int.emod_nonneg n (show (3 : Int) ≠ 0 by omega)
  have q2 := Int.emod_lt_of_pos n (show (0 : Int) < 3 by omega)
  have q3 := Int.emod_nonneg (n.tdiv 3) (show (2 : Int) ≠ 0 by omega)
  have q4 := Int.emod_lt_of_pos (n.tdiv 3) (show (0 : Int) < 2 by omega)
  have q5 := Int.emod_nonneg (n.tdiv 6) (show (8 : Int) ≠ 0 by omega)
  have q6 := Int.emod_lt_of_pos (n.tdiv 6) (show (0 : Int) < 8 by omega)
  have e7 := tdiv_bd n 3 (by omega) hn
  have e8 := tdiv_bd n 6 (by omega) hn
  obtain ⟨hn1, hn2⟩ := hn
  go_enter Try.func5, Try.ntmps5
  go_wp2_with fail
  refine (known_any _).mono ?_
  rintro e w0 ⟨rfl, hb0⟩
  go_wp2_with fail
  refine (of_any _ _ _ (h.keep hb0 (Nat.le_refl _)) hI).mono ?_
  rintro e w1 ⟨va, rfl, hsa, hb1⟩
  have hbw := hb0.trans (hb1.mono hb0.size)
  have hzw := hbw.size
  clear hb0 hb1 h
  generalize ofS ns = l at *
  go_wp2_with fail
  refine (within_any _ 3 _ (by omega) (by omega)).mono ?_
  rintro e w2 ⟨rfl, rfl⟩
  go_wp2_with fail
  refine (within_any _ 2 _ (by omega) (by omega)).mono ?_
  rintro e w2 ⟨rfl, rfl⟩
  go_wp2_with fail
  refine (within_any _ 8 _ (by omega) (by omega)).mono ?_
  rintro e w2 ⟨rfl, rfl⟩
  have hb2 := hbw.alloc hzw (.cells #[.int .i64 (n % 3), .int .i64 (1 + n.tdiv 3 % 2), .int .i64 (1 + n.tdiv 6 % 8)] 30)
  have hnew := heap_alloc_new w1 (.cells #[.int .i64 (n % 3), .int .i64 (1 + n.tdiv 3 % 2), .int .i64 (1 + n.tdiv 6 % 8)] 30)
  have hsa2 := hsa.keep ((Below.refl w1.heap.size w1).alloc (Nat.le_refl _) (.cells #[.int .i64 (n % 3), .int .i64 (1 + n.tdiv 3 % 2), .int .i64 (1 + n.tdiv 6 % 8)] 30)) (Nat.le_refl _)
  obtain ⟨d, hd⟩ : ∃ d, n % 3 = d := ⟨_, rfl⟩
  obtain ⟨e, he⟩ : ∃ e, 1 + n.tdiv 3 % 2 = e := ⟨_, rfl⟩
  obtain ⟨s, hs⟩ : ∃ s, 1 + n.tdiv 6 % 8 = s := ⟨_, rfl⟩
  have hd0 : 0 ≤ d := by omega
  have he0 : 0 ≤ e := by omega
  have hs0 : 1 ≤ s := by omega
  rw [hd, he, hs] at hb2 hnew hsa2
  go_upto_region 5 with fail
  try simp only [hd, he, hs]
  clear hd he hs q1 q2 q3 q4 q5 q6 e7 e8
  obtain ⟨w4, hw4⟩ : ∃ w4, w1.alloc (.cells #[.int .i64 d, .int .i64 e, .int .i64 s] 30) = w4 := ⟨_, rfl⟩
  rw [hw4] at hb2 hnew hsa2 ⊢
  have HW4 := Lib.hid hw4
  clear hw4
  obtain ⟨c0, c1, c2, hbs⟩ := three_cells hnew
  have k0 := Lib.hid (cell_behind c0 hbs)
  have k1 := Lib.hid (cell_behind c1 hbs)
  have k2 := Lib.hid (cell_behind c2 hbs)
  clear hnew
  go_wp2_with fail
  refine (step_any _ l d e s _ hsa2 (by omega)).mono ?_
  rintro en w5 ⟨vw, rfl, hsw, hb5⟩
  have c0 := k0.out _ hb5
  have c1 := k1.out _ hb5
  have c2 := k2.out _ hb5
  have HH := Lib.hid (has_any _ l d e s w5 (hsa2.keep hb5 (Nat.le_refl _)) (by omega))
  cases hh : hasL l d e s with
  | true =>
    rw [hh] at HH
    have HS : Hid (stepS l d e s = ([], 7)) := by show _ = _; rw [stepS, if_neg (by omega), hh]; rfl
    rw [HS.out] at hsw ⊢
    clear hh
    obtain ⟨aow, capw, rfl, hcapw, hmw⟩ := Sl.shape hsw
    go_wp2_with fail
    refine HH.out.mono ?_
    rintro en w6 ⟨rfl, hb6⟩
    go_wp2
    go_ret
    exact ⟨rfl, hb2.trans ((hb5.trans (hb6.mono hb5.size)).mono (by have := hb2.size; omega))⟩
  | false =>
    obtain ⟨f1, f2, f3, f4, f5, f6, f7⟩ := step_facts hok.1 hd0 he0 hs0 hh
    rw [f1] at hsw ⊢
    rw [hh] at HH
    simp only at hsw
    clear f1 hh
    have hjl : (joinS l [(d, e, s)]).length ≤ 13 := by have := joinS_len l [(d, e, s)]; simp at this; omega
    generalize joinS l [(d, e, s)] = j at *
    go_wp2_with fail
    refine HH.out.mono ?_
    rintro en w6 ⟨rfl, hb6⟩
    have hb56 := hb5.trans (hb6.mono hb5.size)
    have hsw6 := hsw.keep hb6 (Nat.le_refl _)
    have c0 := k0.out _ hb56
    have c1 := k1.out _ hb56
    have c2 := k2.out _ hb56
    clear hb6 HH hsw
    go_wp2_with fail
    refine (step_any _ j d e s _ hsw6 (by omega)).mono ?_
    rw [f6]
    rintro en w7 ⟨vx, rfl, _, hb7⟩
    have hb57 := hb56.trans (hb7.mono hb56.size)
    have hsw7 := hsw6.keep hb7 (Nat.le_refl _)
    have hsa7 := hsa2.keep hb57 (Nat.le_refl _)
    have HL1 := Lib.hid (le_behind hsa7 hsw7 (by omega) _ f3)
    have HL2 := Lib.hid (le_behind hsw7 hsa7 (by omega) _ f4)
    have HH3 := Lib.hid (has_behind hsw7 (by omega) d e s _ f5)
    have HG := Lib.hid (get_behind hsw7 (by omega) d e _ f7)
    have c0 := k0.out _ hb57
    have c1 := k1.out _ hb57
    have c2 := k2.out _ hb57
    have hb58 : w1.heap.size < w7.heap.size := by have := hb57.size; omega
    have hb59 : Below w.heap.size w w7 := hb2.trans (hb57.mono (by have := hb2.size; omega))
    have hz59 := hb59.size
    clear hb5 hb56 hb7 hb57 hsw6 hsa7 hsa2 f3 f4 f5 f6 f7 k0 k1 k2
    have HF2 := Lib.hid f2
    clear f2
    have hsh := hsw7
    obtain ⟨aow, capw, rfl, hcapw, hmw⟩ := Sl.shape hsh
    go_upto_block 0 with fail
    go_cut [11] (fun _ wx => Below w7.heap.size w7 wx)
    case first =>
      go_wp2
      go_loopw [11] (fun vi wr => ∃ k : Nat, vi = .int .i64 ((k : Int) + 1) ∧ k ≤ j.length ∧ Below w7.heap.size w7 wr) (fun vi _ => j.length + 1 - (intOf vi).toNat)
      case atStart => exact ⟨0, rfl, Nat.zero_le _, Below.refl _ _⟩
      case round =>
        obtain ⟨k, rfl, hk, hb⟩ := hrel
        rcases Nat.lt_or_ge (k + 1) j.length with hlt | hge
        · obtain ⟨b, off, rfl, hbl, a1, a2, a3⟩ := hsw7.three hb (Nat.le_refl _) k (by omega)
          obtain ⟨b', off', hbe, hbl', a1', a2', a3'⟩ := hsw7.three hb (Nat.le_refl _) (k + 1) hlt
          injection hbe with hbe
          injection hbe with h1 h2 _
          subst h1 h2
          have hS := vp_sorted HF2.out k hlt
          have i1 : (0 : Int) ≤ (k : Int) + 1 := by omega
          have i2 : (k : Int) + 1 < j.length := by omega
          have i3 : ((k : Int) + 1).toNat = k + 1 := by omega
          have i4 : IntKind.i64.wrap ((k : Int) + 1 - 1) = (k : Int) := by rw [show (k : Int) + 1 - 1 = k by omega]; exact IntWalk.i64_in _ (by omega)
          have i5 : (k : Int) < j.length := by omega
          have i6 : IntKind.i64.wrap ((k : Int) + 1 + 1) = (k : Int) + 1 + 1 := IntWalk.i64_in _ (by omega)
          generalize j[k] = p at *
          generalize j[k + 1] = r at *
          obtain ⟨x, y, z⟩ := p
          obtain ⟨x', y', z'⟩ := r
          unfold ltP at hS
          simp only at hS a1 a2 a3 a1' a2' a3'
          have g1 : decide (x' < x) = false := by simp; omega
          by_cases hx : x = x'
          · subst hx
            have g2 : decide (y' ≤ y) = false := by simp; omega
            clear hS
            go_wp2
            go_quiet (fail)
            go_wp2
            go_roundw
            case rel => exact ⟨k + 1, by go_num, by omega, below_drewN hb _⟩
            case measure => simp [intOf]; omega
          · have g2 : (x == x') = false := by simpa using hx
            clear hS hx
            go_wp2
            go_quiet (fail)
            go_wp2
            go_roundw
            case rel => exact ⟨k + 1, by go_num, by omega, below_drewN hb _⟩
            case measure => simp [intOf]; omega
        · have dk : decide ((k : Int) + 1 < j.length) = false := by simp; omega
          go_wp2
          go_meet
          exact hb
    case rest =>
    have KS : Hid (∀ W, Below w7.heap.size w7 W → (Below w7.heap.size w7 W ∧ W.cell? ⟨w1.heap.size, 0, none⟩ = some (.int .i64 d) ∧ W.cell? ⟨w1.heap.size, 1, none⟩ = some (.int .i64 e) ∧ W.cell? ⟨w1.heap.size, 2, none⟩ = some (.int .i64 s))) :=
      fun W hW => ⟨hW, cell_behind c0 hb58 W hW, cell_behind c1 hb58 W hW, cell_behind c2 hb58 W hW⟩
    clear c0 c1 c2
    go_upto_region 14 with fail
    go_cut [4] (fun v4 wx => v4 = .bool true ∧ Below w7.heap.size w7 wx)
    case first =>
      first
        | (go_region_held3 (fun w' => Below w7.heap.size w7 w' ∧ w'.cell? ⟨w1.heap.size, 0, none⟩ = some (.int .i64 d) ∧ w'.cell? ⟨w1.heap.size, 1, none⟩ = some (.int .i64 e) ∧ w'.cell? ⟨w1.heap.size, 2, none⟩ = some (.int .i64 s))
            (first | assumption | exact KS.out _ (by assumption) | exact KS.out _ hcut.drew)
            (first
              | (go_at_call 16; (with_reducible refine (HL1.out _ (by go_split_ands; assumption)).mono ?_); rintro en w9 ⟨rfl, hb9⟩)
              | (go_at_call 16; (with_reducible refine (HL2.out _ (by go_split_ands; assumption)).mono ?_); rintro en w9 ⟨rfl, hb9⟩)
              | (go_at_call 12; (with_reducible refine (HH3.out _ (by go_split_ands; assumption)).mono ?_); rintro en w9 ⟨rfl, hb9⟩)
              | (go_at_call 11; (with_reducible refine (HG.out _ (by go_split_ands; assumption)).mono ?_); rintro en w9 ⟨rfl, hb9⟩)))
        | fail
      all_goals
        go_wp2
        go_meet
        exact ⟨by rfl, by first | assumption | exact hcut.drew⟩
    case rest =>
    obtain ⟨rfl, hb9⟩ := hcut
    go_wp2
    go_ret
    exact ⟨rfl, hb59.trans (hb9.mono hz59)⟩

end Go.Proofs.Ytlejcnobicbeoaa
