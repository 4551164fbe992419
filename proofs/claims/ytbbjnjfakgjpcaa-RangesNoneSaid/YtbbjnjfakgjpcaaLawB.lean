/- The walk of the law RangesNone. -/
import Derived.Test.YtbbjnjfakgjpcaaLawA
namespace Go.Proofs.Ytbbjnjfakgjpcaa
open Go.RowKit

theorem two_below {w w' : World} {b B : Nat} {x y : Value} {t : TypeId} (h : w.heap[b]? = some (.cells #[x, y] t (0, 0))) (hb : Below B w w') (hB : b < B) : w'.heap[b]? = some (.cells #[x, y] t (0, 0)) := by
  rw [hb.block b hB]; exact h

set_option maxHeartbeats 4000000 in
theorem none_walk (v : Value) (ns : List Int) (x y : Int) (w : World) (h : SlI w v ns) (hI : I64 ns) :
    Calls Try.prog 4 #[v, .agg #[.int .i64 x, .int .i64 y]] w fun e w' => e = .returned (.bool true) ∧ Below w.heap.size w w' := by
  have ra := rowP_ofS ns
  have la := length_ofS ns
  go_enter Try.func4, Try.ntmps4
  go_wp2_with fail
  have hrb : (w.alloc (.cells #[.int .i64 x, .int .i64 y] 28)).heap[w.heap.size]? = some (.cells #[.int .i64 x, .int .i64 y] 28 (0, 0)) := heap_alloc_new w _
  have hba : Below w.heap.size w (w.alloc (.cells #[.int .i64 x, .int .i64 y] 28)) := (Below.refl _ _).alloc (Nat.le_refl _) _
  have hsz : w.heap.size < (w.alloc (.cells #[.int .i64 x, .int .i64 y] 28)).heap.size := by simp
  generalize w.alloc (.cells #[.int .i64 x, .int .i64 y] 28) = wa at *
  have HRA := Lib.hid hrb
  clear hrb
  have hh := Sl.keep h hba (Nat.le_refl _)
  refine (known_any _).mono ?_
  rintro e w0 ⟨rfl, hb0⟩
  have hb0s := hb0.size
  go_wp2_with fail
  refine (of_fresh _ _ _ (Sl.keep hh hb0 (Nat.le_refl _)) hI).mono ?_
  rintro e w1 ⟨va, rfl, hsa, hfa, hb1⟩
  have hb01 := hb0.trans (hb1.mono hb0.size)
  have HRB := Lib.hid (two_below HRA.out hb01 hsz)
  have hbw : Below w.heap.size w w1 := hba.trans (hb01.mono (by omega))
  have hf : Fresh (w.heap.size + 1) va := fun g hg => by have := hfa g hg; omega
  clear hb0 hb1 hb01 hh h HRA hba hfa hb0s hsz
  generalize ofS ns = a at *
  obtain ⟨aa, capa, rfl, hcapa, hma⟩ := Sl.shape hsa
  have hbs := hbw.size
  obtain ⟨c0, c1, f0, f1, hbs2⟩ := two_cells HRB.out
  obtain ⟨bo, hbo⟩ : ∃ bo : Bool, bo = decide (Ok (x, y)) := ⟨_, rfl⟩
  have HB := Lib.hid hbo
  clear hbo
  go_upto_region 4 with fail
  go_cut [24] (fun s24 wx => s24 = .bool bo ∧ wx = w1)
  case first =>
    by_cases d0 : 0 ≤ x
    · have e0 : decide (0 ≤ x) = true := by simpa using d0
      by_cases d1 : x < y
      · by_cases d2 : y ≤ 1073741824
        · have hh : bo = true := by rw [HB.out]; simp [Ok, d0, d1, d2]
          subst hh
          go_wp2
          go_meet
          exact ⟨rfl, rfl⟩
        · have e2 : decide (y ≤ 1073741824) = false := by simpa using d2
          have hh : bo = false := by rw [HB.out, decide_eq_false_iff_not]; unfold Ok; simp only; omega
          subst hh
          clear d2
          go_wp2
          go_meet
          exact ⟨rfl, rfl⟩
      · have e1 : decide (x < y) = false := by simpa using d1
        have hh : bo = false := by rw [HB.out, decide_eq_false_iff_not]; unfold Ok; simp only; omega
        subst hh
        clear d1
        go_wp2
        go_meet
        exact ⟨rfl, rfl⟩
    · have e0 : decide (0 ≤ x) = false := by simpa using d0
      have hh : bo = false := by rw [HB.out, decide_eq_false_iff_not]; unfold Ok; simp only; omega
      subst hh
      clear d0
      go_wp2
      go_meet
      exact ⟨rfl, rfl⟩
  case rest =>
  obtain ⟨rfl, rfl⟩ := hcut
  go_upto_if 24 with fail
  go_cut [] (fun wx => ∃ p' q' : Int, wx.heap[w.heap.size]? = some (.cells #[.int .i64 p', .int .i64 q'] 28 (0, 0)) ∧ ¬ Ok (p', q') ∧ SlR wx (.slice aa a.length capa) a ∧ Below w.heap.size w wx)
  case first =>
    cases bo with
    | true =>
      have hok : Ok (x, y) := by simpa using HB.out.symm
      have HK := Lib.hid hok
      clear hok HB
      go_wp2
      go_meet
      refine ⟨y, x, set_two HRB.out _ _, ?_, ((hsa.setCell hf _ (by simp) _).setCell hf _ (by simp) _), (hbw.setCell (Nat.le_refl _) _).setCell (Nat.le_refl _) _⟩
      have := HK.out
      unfold Ok at *
      simp only at *
      omega
    | false =>
      have hok : ¬ Ok (x, y) := by simpa using HB.out.symm
      have HK := Lib.hid hok
      clear hok HB
      go_wp2
      go_meet
      exact ⟨x, y, HRB.out, HK.out, hsa, hbw⟩
  case rest =>
  obtain ⟨p', q', hrb2, hno, hsa2, hb2⟩ := hcut
  obtain ⟨e0, e1, g0, g1, hbs3⟩ := two_cells hrb2
  have HNO := Lib.hid hno
  clear hno hrb2 c0 c1 f0 f1 HRB hsa hbw hbs hbs2 HB
  go_wp2_with fail
  refine (add_no _ a p' q' _ hsa2 (by omega) HNO.out).mono ?_
  rintro e w3 ⟨v3, rfl, ho3, hb3⟩
  have hs3 : SlR w3 v3 a := sl_of_owns ho3
  have ha3 := hsa2.keep hb3 (Nat.le_refl _)
  have hb03 := hb2.trans (hb3.mono hb2.size)
  clear ho3 hb3 hb2 hsa2 e0 e1 g0 g1
  go_wp2_with fail
  refine (same_yes _ _ _ _ _ hs3 ha3 rfl).mono ?_
  rintro e w4 ⟨rfl, hb4⟩
  have ha4 := ha3.keep hb4 (Nat.le_refl _)
  have hb04 := hb03.trans (hb4.mono hb03.size)
  clear hb4 hb03 ha3 hs3
  go_wp2_with fail
  refine (add_no _ a 5 5 _ ha4 (by omega) (by decide)).mono ?_
  rintro e w5 ⟨v5, rfl, ho5, hb5⟩
  have hs5 : SlR w5 v5 a := sl_of_owns ho5
  have ha5 := ha4.keep hb5 (Nat.le_refl _)
  have hb05 := hb04.trans (hb5.mono hb04.size)
  clear ho5 hb5 hb04 ha4
  go_wp2_with fail
  refine (same_yes _ _ _ _ _ hs5 ha5 rfl).mono ?_
  rintro e w6 ⟨rfl, hb6⟩
  have ha6 := ha5.keep hb6 (Nat.le_refl _)
  have hb06 := hb05.trans (hb6.mono hb05.size)
  clear hb6 hb05 ha5 hs5
  go_wp2_with fail
  refine (add_no _ a (-1) 3 _ ha6 (by omega) (by decide)).mono ?_
  rintro e w7 ⟨v7, rfl, ho7, hb7⟩
  have hs7 : SlR w7 v7 a := sl_of_owns ho7
  have ha7 := ha6.keep hb7 (Nat.le_refl _)
  have hb07 := hb06.trans (hb7.mono hb06.size)
  clear ho7 hb7 hb06 ha6
  go_wp2_with fail
  refine (same_yes _ _ _ _ _ hs7 ha7 rfl).mono ?_
  rintro e w8 ⟨rfl, hb8⟩
  have hb08 := hb07.trans (hb8.mono hb07.size)
  clear hb8 hb07 ha7 hs7
  go_wp2
  go_ret
  exact ⟨rfl, hb08⟩

end Go.Proofs.Ytbbjnjfakgjpcaa
