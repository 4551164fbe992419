/- slices.Equal at counters, slices of rights, ranges, numbers. -/
import Derived.Test.YtckonmlcgfbojaaLIx
import Derived.Shelf.SlicesE.Equal
import Derived.Shelf.SlicesQ.Load
namespace Go.Proofs.Ytckonmlcgfbojaa
open Go.RowKit

def cRg (r : Rg) : List Value := [.int .i64 r.1, .int .i64 r.2]
theorem cRg_len (r : Rg) : (cRg r).length = 2 := rfl
theorem cellsT_cRg (l : List Rg) : cellsT cRg l = cellsR l := rfl
theorem not_eq_at {α : Type} {a b : List α} {k : Nat} (h1 : k < a.length) (h2 : k < b.length) (h : ¬ a[k] = b[k]) : ¬ a = b := by rintro rfl; exact h rfl

theorem Try.neCt : NeqAt Try.prog 25 (fun x => .agg (cCt x).toArray) (fun x y => decide (x = y)) := by
  refine ⟨fun x y w => ?_, GuardAt.agg _ (by kernel_rfl)⟩
  have u3 := Try.underlying3
  have a3 := Try.isAgg3
  have z3 := Try.sizeOf3
  have u4 := Try.underlying9
  have a4 := Try.isAgg9
  have z4 := Try.sizeOf9
  have hS : Try.prog.underlying 25 = some (.struct (Try.prog.fieldsOf 25)) := by kernel_rfl
  have hp : Try.prog.stoodInHeld 25 = false := by kernel_rfl
  obtain ⟨x0, x1, x2, x3, x4, x5, x6⟩ := x
  obtain ⟨y0, y1, y2, y3, y4, y5, y6⟩ := y
  simp only [cCt]
  rw [run_neq_struct, show (10000 : Nat) = 9999 + 1 from rfl, run_equalIn_agg w 9999 25 _ _ hS hp]
  simp only [Program.fieldsOf, Try.underlying25]
  go_simp
  by_cases g0 : x0 = y0
  case neg => have g0' : (x0.toList == y0.toList) = false := by rw [key_eq]; simpa using g0
              have g0'' : ¬ x0.toList = y0.toList := by simpa using g0'
              simp [g0, g0'']
  subst g0
  by_cases g1 : x1 = y1
  case neg => simp [g1]
  subst g1
  by_cases g2 : x2 = y2
  case neg => simp [g2]
  subst g2
  by_cases g3 : x3 = y3
  case neg => simp [g3]
  subst g3
  by_cases g4 : x4 = y4
  case neg => simp [g4]
  subst g4
  by_cases g5 : x5 = y5
  case neg => simp [g5]
  subst g5
  by_cases g6 : x6 = y6
  case neg => simp [g6]
  subst g6
  simp

theorem Try.neSc : NeqAt Try.prog 51 (fun x => .agg (cSc x).toArray) (fun x y => decide (x = y)) := by
  refine ⟨fun x y w => ?_, GuardAt.agg _ (by kernel_rfl)⟩
  have u3 := Try.underlying3
  have a3 := Try.isAgg3
  have z3 := Try.sizeOf3
  have u4 := Try.underlying9
  have a4 := Try.isAgg9
  have z4 := Try.sizeOf9
  have hS : Try.prog.underlying 51 = some (.struct (Try.prog.fieldsOf 51)) := by kernel_rfl
  have hp : Try.prog.stoodInHeld 51 = false := by kernel_rfl
  obtain ⟨x0, x1, x2, x3, x4⟩ := x
  obtain ⟨y0, y1, y2, y3, y4⟩ := y
  simp only [cSc]
  rw [run_neq_struct, show (10000 : Nat) = 9999 + 1 from rfl, run_equalIn_agg w 9999 51 _ _ hS hp]
  simp only [Program.fieldsOf, Try.underlying51]
  go_simp
  by_cases g0 : x0 = y0
  case neg => have g0' : (x0.toList == y0.toList) = false := by rw [key_eq]; simpa using g0
              have g0'' : ¬ x0.toList = y0.toList := by simpa using g0'
              simp [g0, g0'']
  subst g0
  by_cases g1 : x1 = y1
  case neg => simp [g1]
  subst g1
  by_cases g2 : x2 = y2
  case neg => simp [g2]
  subst g2
  by_cases g3 : x3 = y3
  case neg => simp [g3]
  subst g3
  by_cases g4 : x4 = y4
  case neg => simp [g4]
  subst g4
  simp

theorem Try.neRg : NeqAt Try.prog 78 (fun x => .agg (cRg x).toArray) (fun x y => decide (x = y)) := by
  refine ⟨fun x y w => ?_, GuardAt.agg _ (by kernel_rfl)⟩
  have u3 := Try.underlying3
  have a3 := Try.isAgg3
  have z3 := Try.sizeOf3
  have hS : Try.prog.underlying 78 = some (.struct (Try.prog.fieldsOf 78)) := by kernel_rfl
  have hp : Try.prog.stoodInHeld 78 = false := by kernel_rfl
  obtain ⟨x0, x1⟩ := x
  obtain ⟨y0, y1⟩ := y
  simp only [cRg]
  rw [run_neq_struct, show (10000 : Nat) = 9999 + 1 from rfl, run_equalIn_agg w 9999 78 _ _ hS hp]
  simp only [Program.fieldsOf, Try.underlying78]
  go_simp
  by_cases g0 : x0 = y0
  case neg => simp [g0]
  subst g0
  by_cases g1 : x1 = y1
  case neg => simp [g1]
  subst g1
  simp

set_option maxHeartbeats 2000000 in
set_option maxRecDepth 100000 in
theorem eqCt_any (v v' : Value) (xs ys : List Ct) (w : World) (h : SlCt w v xs) (h' : SlCt w v' ys) :
    Calls Try.prog 46 #[v, v'] w fun e w' => e = .returned (.bool (decide (xs = ys))) ∧ Below w.heap.size w w' := by
  obtain ⟨ao, cap, rfl, hcap, hcm⟩ := Sl.shape h
  obtain ⟨ao', cap', rfl, hcap', hcm'⟩ := Sl.shape h'
  have hne' : ∀ (x y : Ct) (w : World), Sem.run Try.prog (binOp .neq 25 (.agg (cCt x).toArray) (.agg (cCt y).toArray)) w = .ok (.bool (!decide (x = y))) w := Try.neCt.1
  have hgd' : ∀ (op : BinOp) (a b : Operand) (x y : Ct) (w : World), Sem.run Try.prog (eqGuard op 25 a b (.agg (cCt x).toArray) (.agg (cCt y).toArray)) w = .ok () w := Try.neCt.2
  by_cases hnm : xs.length = ys.length
  · have HNM := Lib.hid hnm
    rw [← hnm] at h' hcap' ⊢
    clear hnm
    have H' := Lib.hid h'
    clear h'
    go_enter Try.func46, Try.ntmps46
    go_wp2
    go_loopw [13] (fun s wr => ∃ k : Nat, k ≤ xs.length ∧ s = .int .i64 k ∧ Hid (xs.take k = ys.take k) ∧ Below w.heap.size w wr) (fun s _ => xs.length - (intOf s).toNat)
    case atStart => exact ⟨0, Nat.zero_le _, rfl, Lib.hid rfl, Below.refl _ _⟩
    case round =>
      obtain ⟨k, hk, rfl, A, hb⟩ := hrel
      by_cases hlt : k < xs.length
      · have hlt' : k < ys.length := by rw [← HNM.out]; exact hlt
        obtain ⟨b, off, rfl, hbl, c0, c1, c2, c3, c4, c5, c6⟩ := SlT.ct h hb (Nat.le_refl _) k hlt
        obtain ⟨b', off', rfl, hbl', d0, d1, d2, d3, d4, d5, d6⟩ := SlT.ct (cap := cap') (l := ys) (by have h9 := H'.out; rw [HNM.out] at h9; exact h9) hb (Nat.le_refl _) k hlt'
        have HT : Hid (xs[k] = ys[k] → xs.take (k + 1) = ys.take (k + 1)) := Lib.hid (fun e => by rw [take_snoc xs k hlt, take_snoc ys k hlt', A.out, e])
        have HF : Hid (¬ xs[k] = ys[k] → ¬ xs = ys) := Lib.hid (not_eq_at hlt hlt')
        have HNE := Lib.hid (hne' xs[k] ys[k])
        have HGD := Lib.hid (fun op a b => hgd' op a b xs[k] ys[k])
        clear hne' hgd'
        generalize xs[k] = x at *
        generalize ys[k] = y at *
        have klt : (k : Int) < xs.length := by omega
        obtain ⟨q, hq⟩ : ∃ q, decide (x = y) = q := ⟨_, rfl⟩
        have hne := HNE.out
        have hgd := HGD.out
        rw [hq] at hne
        have HQ := Lib.hid hq
        clear hq HNE HGD
        obtain ⟨x0, x1, x2, x3, x4, x5, x6⟩ := x
        obtain ⟨y0, y1, y2, y3, y4, y5, y6⟩ := y
        simp only [cCt] at hne hgd
        cases q with
        | true =>
          have e := of_decide_eq_true HQ.out
          have HE := Lib.hid (HT.out e)
          clear e
          go_wp2_with fail
          go_quiet (fail)
          go_wp2
          go_roundw
          case rel => exact ⟨k + 1, by omega, by go_num, Lib.hid HE.out, below_drewN hb _⟩
          case measure => simp [intOf]; omega
        | false =>
          have HE := Lib.hid (HF.out (of_decide_eq_false HQ.out))
          go_wp2_with fail
          go_quiet (fail)
          go_wp2
          go_ret
          exact ⟨ret_bool (decide_eq_false HE.out).symm, below_drewN hb _⟩
      · have : k = xs.length := by omega
        subst this
        have hl2 := A.out
        rw [List.take_length, HNM.out, List.take_length] at hl2
        have HL := Lib.hid hl2
        clear hl2
        go_wp2
        go_ret
        exact ⟨ret_bool (decide_eq_true HL.out).symm, hb⟩
  · have hnm' : ¬ (xs.length : Int) = (ys.length : Int) := by omega
    go_enter Try.func46, Try.ntmps46
    go_wp2
    go_ret
    exact ⟨ret_bool (decide_eq_false (fun e => hnm (by rw [e]))).symm, Below.refl _ _⟩

set_option maxHeartbeats 2000000 in
set_option maxRecDepth 100000 in
theorem eqSc_any (v v' : Value) (xs ys : List Sc) (w : World) (h : SlSc w v xs) (h' : SlSc w v' ys) :
    Calls Try.prog 86 #[v, v'] w fun e w' => e = .returned (.bool (decide (xs = ys))) ∧ Below w.heap.size w w' := by
  obtain ⟨ao, cap, rfl, hcap, hcm⟩ := Sl.shape h
  obtain ⟨ao', cap', rfl, hcap', hcm'⟩ := Sl.shape h'
  have hne' : ∀ (x y : Sc) (w : World), Sem.run Try.prog (binOp .neq 51 (.agg (cSc x).toArray) (.agg (cSc y).toArray)) w = .ok (.bool (!decide (x = y))) w := Try.neSc.1
  have hgd' : ∀ (op : BinOp) (a b : Operand) (x y : Sc) (w : World), Sem.run Try.prog (eqGuard op 51 a b (.agg (cSc x).toArray) (.agg (cSc y).toArray)) w = .ok () w := Try.neSc.2
  by_cases hnm : xs.length = ys.length
  · have HNM := Lib.hid hnm
    rw [← hnm] at h' hcap' ⊢
    clear hnm
    have H' := Lib.hid h'
    clear h'
    go_enter Try.func86, Try.ntmps86
    go_wp2
    go_loopw [13] (fun s wr => ∃ k : Nat, k ≤ xs.length ∧ s = .int .i64 k ∧ Hid (xs.take k = ys.take k) ∧ Below w.heap.size w wr) (fun s _ => xs.length - (intOf s).toNat)
    case atStart => exact ⟨0, Nat.zero_le _, rfl, Lib.hid rfl, Below.refl _ _⟩
    case round =>
      obtain ⟨k, hk, rfl, A, hb⟩ := hrel
      by_cases hlt : k < xs.length
      · have hlt' : k < ys.length := by rw [← HNM.out]; exact hlt
        obtain ⟨b, off, rfl, hbl, c0, c1, c2, c3, c4⟩ := SlT.sc h hb (Nat.le_refl _) k hlt
        obtain ⟨b', off', rfl, hbl', d0, d1, d2, d3, d4⟩ := SlT.sc (cap := cap') (l := ys) (by have h9 := H'.out; rw [HNM.out] at h9; exact h9) hb (Nat.le_refl _) k hlt'
        have HT : Hid (xs[k] = ys[k] → xs.take (k + 1) = ys.take (k + 1)) := Lib.hid (fun e => by rw [take_snoc xs k hlt, take_snoc ys k hlt', A.out, e])
        have HF : Hid (¬ xs[k] = ys[k] → ¬ xs = ys) := Lib.hid (not_eq_at hlt hlt')
        have HNE := Lib.hid (hne' xs[k] ys[k])
        have HGD := Lib.hid (fun op a b => hgd' op a b xs[k] ys[k])
        clear hne' hgd'
        generalize xs[k] = x at *
        generalize ys[k] = y at *
        have klt : (k : Int) < xs.length := by omega
        obtain ⟨q, hq⟩ : ∃ q, decide (x = y) = q := ⟨_, rfl⟩
        have hne := HNE.out
        have hgd := HGD.out
        rw [hq] at hne
        have HQ := Lib.hid hq
        clear hq HNE HGD
        obtain ⟨x0, x1, x2, x3, x4⟩ := x
        obtain ⟨y0, y1, y2, y3, y4⟩ := y
        simp only [cSc] at hne hgd
        cases q with
        | true =>
          have e := of_decide_eq_true HQ.out
          have HE := Lib.hid (HT.out e)
          clear e
          go_wp2_with fail
          go_quiet (fail)
          go_wp2
          go_roundw
          case rel => exact ⟨k + 1, by omega, by go_num, Lib.hid HE.out, below_drewN hb _⟩
          case measure => simp [intOf]; omega
        | false =>
          have HE := Lib.hid (HF.out (of_decide_eq_false HQ.out))
          go_wp2_with fail
          go_quiet (fail)
          go_wp2
          go_ret
          exact ⟨ret_bool (decide_eq_false HE.out).symm, below_drewN hb _⟩
      · have : k = xs.length := by omega
        subst this
        have hl2 := A.out
        rw [List.take_length, HNM.out, List.take_length] at hl2
        have HL := Lib.hid hl2
        clear hl2
        go_wp2
        go_ret
        exact ⟨ret_bool (decide_eq_true HL.out).symm, hb⟩
  · have hnm' : ¬ (xs.length : Int) = (ys.length : Int) := by omega
    go_enter Try.func86, Try.ntmps86
    go_wp2
    go_ret
    exact ⟨ret_bool (decide_eq_false (fun e => hnm (by rw [e]))).symm, Below.refl _ _⟩

set_option maxHeartbeats 2000000 in
set_option maxRecDepth 100000 in
theorem eqRg_any (v v' : Value) (xs ys : List Rg) (w : World) (h : SlR w v xs) (h' : SlR w v' ys) :
    Calls Try.prog 47 #[v, v'] w fun e w' => e = .returned (.bool (decide (xs = ys))) ∧ Below w.heap.size w w' := by
  obtain ⟨ao, cap, rfl, hcap, hcm⟩ := Sl.shape h
  obtain ⟨ao', cap', rfl, hcap', hcm'⟩ := Sl.shape h'
  have hne' : ∀ (x y : Rg) (w : World), Sem.run Try.prog (binOp .neq 78 (.agg (cRg x).toArray) (.agg (cRg y).toArray)) w = .ok (.bool (!decide (x = y))) w := Try.neRg.1
  have hgd' : ∀ (op : BinOp) (a b : Operand) (x y : Rg) (w : World), Sem.run Try.prog (eqGuard op 78 a b (.agg (cRg x).toArray) (.agg (cRg y).toArray)) w = .ok () w := Try.neRg.2
  by_cases hnm : xs.length = ys.length
  · have HNM := Lib.hid hnm
    rw [← hnm] at h' hcap' ⊢
    clear hnm
    have H' := Lib.hid h'
    clear h'
    go_enter Try.func47, Try.ntmps47
    go_wp2
    go_loopw [13] (fun s wr => ∃ k : Nat, k ≤ xs.length ∧ s = .int .i64 k ∧ Hid (xs.take k = ys.take k) ∧ Below w.heap.size w wr) (fun s _ => xs.length - (intOf s).toNat)
    case atStart => exact ⟨0, Nat.zero_le _, rfl, Lib.hid rfl, Below.refl _ _⟩
    case round =>
      obtain ⟨k, hk, rfl, A, hb⟩ := hrel
      by_cases hlt : k < xs.length
      · have hlt' : k < ys.length := by rw [← HNM.out]; exact hlt
        obtain ⟨b, off, rfl, hbl, c0, c1⟩ := SlR.pair h hb (Nat.le_refl _) k hlt
        obtain ⟨b', off', rfl, hbl', d0, d1⟩ := SlR.pair (cap := cap') (l := ys) (by have h9 := H'.out; rw [HNM.out] at h9; exact h9) hb (Nat.le_refl _) k hlt'
        have HT : Hid (xs[k] = ys[k] → xs.take (k + 1) = ys.take (k + 1)) := Lib.hid (fun e => by rw [take_snoc xs k hlt, take_snoc ys k hlt', A.out, e])
        have HF : Hid (¬ xs[k] = ys[k] → ¬ xs = ys) := Lib.hid (not_eq_at hlt hlt')
        have HNE := Lib.hid (hne' xs[k] ys[k])
        have HGD := Lib.hid (fun op a b => hgd' op a b xs[k] ys[k])
        clear hne' hgd'
        generalize xs[k] = x at *
        generalize ys[k] = y at *
        have klt : (k : Int) < xs.length := by omega
        obtain ⟨q, hq⟩ : ∃ q, decide (x = y) = q := ⟨_, rfl⟩
        have hne := HNE.out
        have hgd := HGD.out
        rw [hq] at hne
        have HQ := Lib.hid hq
        clear hq HNE HGD
        obtain ⟨x0, x1⟩ := x
        obtain ⟨y0, y1⟩ := y
        simp only [cRg] at hne hgd
        cases q with
        | true =>
          have e := of_decide_eq_true HQ.out
          have HE := Lib.hid (HT.out e)
          clear e
          go_wp2_with fail
          go_quiet (fail)
          go_wp2
          go_roundw
          case rel => exact ⟨k + 1, by omega, by go_num, Lib.hid HE.out, below_drewN hb _⟩
          case measure => simp [intOf]; omega
        | false =>
          have HE := Lib.hid (HF.out (of_decide_eq_false HQ.out))
          go_wp2_with fail
          go_quiet (fail)
          go_wp2
          go_ret
          exact ⟨ret_bool (decide_eq_false HE.out).symm, below_drewN hb _⟩
      · have : k = xs.length := by omega
        subst this
        have hl2 := A.out
        rw [List.take_length, HNM.out, List.take_length] at hl2
        have HL := Lib.hid hl2
        clear hl2
        go_wp2
        go_ret
        exact ⟨ret_bool (decide_eq_true HL.out).symm, hb⟩
  · have hnm' : ¬ (xs.length : Int) = (ys.length : Int) := by omega
    go_enter Try.func47, Try.ntmps47
    go_wp2
    go_ret
    exact ⟨ret_bool (decide_eq_false (fun e => hnm (by rw [e]))).symm, Below.refl _ _⟩

set_option maxHeartbeats 2000000 in
theorem eqIn_any (v v' : Value) (xs ys : List Int) (w : World) (h : SlI w v xs) (h' : SlI w v' ys) :
    Calls Try.prog 50 #[v, v'] w fun e w' => e = .returned (.bool (decide (xs = ys))) ∧ Below w.heap.size w w' := by
  obtain ⟨ao, cap, rfl, hcap, hcm⟩ := Sl.shape h
  obtain ⟨ao', cap', rfl, hcap', hcm'⟩ := Sl.shape h'
  by_cases hnm : xs.length = ys.length
  · have HNM := Lib.hid hnm
    rw [← hnm] at h' hcap' ⊢
    clear hnm
    have H' := Lib.hid h'
    clear h'
    go_enter Try.func50, Try.ntmps50
    go_wp2
    go_loopw [13] (fun s wr => ∃ k : Nat, k ≤ xs.length ∧ s = .int .i64 k ∧ Hid (xs.take k = ys.take k) ∧ Below w.heap.size w wr) (fun s _ => xs.length - (intOf s).toNat)
    case atStart => exact ⟨0, Nat.zero_le _, rfl, Lib.hid rfl, Below.refl _ _⟩
    case round =>
      obtain ⟨k, hk, rfl, A, hb⟩ := hrel
      by_cases hlt : k < xs.length
      · have hlt' : k < ys.length := by rw [← HNM.out]; exact hlt
        obtain ⟨b, off, rfl, hbl, hc⟩ := SlI.cell h hb (Nat.le_refl _) k hlt
        obtain ⟨b', off', rfl, hbl', hc'⟩ := SlI.cell (cap := cap') (ns := ys) (by have h9 := H'.out; rw [HNM.out] at h9; exact h9) hb (Nat.le_refl _) k hlt'
        have HT : Hid (xs[k] = ys[k] → xs.take (k + 1) = ys.take (k + 1)) := Lib.hid (fun e => by rw [take_snoc xs k hlt, take_snoc ys k hlt', A.out, e])
        have HF : Hid (¬ xs[k] = ys[k] → ¬ xs = ys) := Lib.hid (not_eq_at hlt hlt')
        generalize xs[k] = x at *
        generalize ys[k] = y at *
        have klt : (k : Int) < xs.length := by omega
        by_cases e : x = y
        · subst e
          go_wp2_with fail
          go_quiet (fail)
          go_wp2
          go_roundw
          case rel => exact ⟨k + 1, by omega, by go_num, Lib.hid (HT.out (by first | rfl | trivial)), below_drewN hb _⟩
          case measure => simp [intOf]; omega
        · have e1 : (x == y) = false := by simpa using e
          have e2 : (x != y) = true := by simpa using e
          go_wp2_with fail
          go_quiet (fail)
          go_wp2
          go_ret
          exact ⟨ret_bool (decide_eq_false (HF.out e)).symm, below_drewN hb _⟩
      · have : k = xs.length := by omega
        subst this
        have hl2 := A.out
        rw [List.take_length, HNM.out, List.take_length] at hl2
        have HL := Lib.hid hl2
        clear hl2
        go_wp2
        go_ret
        exact ⟨ret_bool (decide_eq_true HL.out).symm, hb⟩
  · have hnm' : ¬ (xs.length : Int) = (ys.length : Int) := by omega
    go_enter Try.func50, Try.ntmps50
    go_wp2
    go_ret
    exact ⟨ret_bool (decide_eq_false (fun e => hnm (by rw [e]))).symm, Below.refl _ _⟩

end Go.Proofs.Ytckonmlcgfbojaa
