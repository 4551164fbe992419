/- The walk of ref.Add. -/
import Derived.Test.YtckonmlcgfbojaaWkC
namespace Go.Proofs.Ytckonmlcgfbojaa
open Go.RowKit

abbrev RSt := List Rg × List Rg × Rg
def refStep (s : RSt) (x : Rg) : RSt :=
  if x.2 < s.2.2.1 then (s.1 ++ [x], s.2.1, s.2.2) else if s.2.2.2 < x.1 then (s.1, s.2.1 ++ [x], s.2.2) else (s.1, s.2.1, (min s.2.2.1 x.1, max s.2.2.2 x.2))
def refSt (l : List Rg) (r : Rg) : RSt := l.foldl refStep ([], [], r)
def addR (l : List Rg) (r : Rg) : List Rg := (refSt l r).1 ++ [(refSt l r).2.2] ++ (refSt l r).2.1

theorem refSt_snoc (l : List Rg) (x r : Rg) : refSt (l ++ [x]) r = refStep (refSt l r) x := by simp [refSt]

set_option maxHeartbeats 4000000 in
theorem radd_yes (v : Value) (l : List Rg) (p q : Int) (w : World) (h : SlR w v l) (hl : l.length < 1000000) (h0 : p < q) (h1 : 0 ≤ p) (h2 : q ≤ 1073741824) :
    Calls Try.prog 34 #[v, .agg #[.int .i64 p, .int .i64 q]] w (RetRow w 2 78 (addR l (p, q)).length (cellsR (addR l (p, q)))) := by
  obtain ⟨ao, cap, rfl, hcap, hm⟩ := Sl.shape h
  have d0 : decide (q ≤ p) = false := by simpa using h0
  have d1 : decide (p < 0) = false := by simpa using h1
  have d2 : decide (1073741824 < q) = false := by simpa using h2
  go_enter Try.func34, Try.ntmps34
  go_wp2
  go_loopw [5, 6, 7] (fun v5 v6 ix wr => ∃ (k : Nat) (A B : List Rg) (p' q' : Int), k ≤ l.length ∧ ix = .int .i64 k ∧ refSt (l.take k) (p, q) = (A, B, (p', q')) ∧ A.length ≤ k ∧ B.length ≤ k ∧
    wr.ownsRow (w.heap.size + 1) 78 2 v5 A.length (cellsR A) ∧ wr.ownsRow (w.heap.size + 1) 78 2 v6 B.length (cellsR B) ∧ Apart v5 v6 ∧
    wr.heap[w.heap.size]? = some (.cells #[.int .i64 p', .int .i64 q'] 78 (0, 0)) ∧ Below w.heap.size w wr) (fun _ _ ix _ => l.length - (intOf ix).toNat)
  case atStart => exact ⟨0, [], [], p, q, Nat.zero_le _, rfl, rfl, Nat.le_refl _, Nat.le_refl _, World.ownsRow_nil _ _ _ _, World.ownsRow_nil _ _ _ _, apart_nil _, heap_alloc_new w _, (Below.refl _ _).alloc (Nat.le_refl _) _⟩
  case round =>
    obtain ⟨k, A, B, p', q', hk, rfl, hst, hA, hB, ho5, ho6, hap, hrb, hb⟩ := hrel
    have hz := hb.size
    have HST := Lib.hid hst
    clear hst
    obtain ⟨c0, c1, f0, f1, hbs⟩ := two_cells hrb
    have HB := Lib.hid hrb
    clear hrb
    rcases Nat.lt_or_ge k l.length with hlt | hge
    · obtain ⟨b, off, rfl, hbl, hc1, hc2⟩ := h.pair hb (Nat.le_refl _) k hlt
      have HN : Hid (refSt (l.take (k + 1)) (p, q) = refStep (A, B, (p', q')) l[k]) := by show _ = _; rw [take_snoc l k hlt, refSt_snoc, HST.out]
      generalize l[k] = r at *
      obtain ⟨x, y⟩ := r
      simp only at hc1 hc2
      by_cases hx : y < p'
      · have HN2 : Hid (refSt (l.take (k + 1)) (p, q) = (A ++ [(x, y)], B, (p', q'))) := by show _ = _; rw [HN.out]; simp [refStep, hx]
        clear HN
        go_wp2
        go_quiet (fail)
        go_upto_region 9 with fail
        go_wp2_with ((with_reducible refine at_slot 64 ?_); refine append_R_at (o := ⟨some 64, _, _, _, _, _⟩) rfl _ _ rfl (w.heap.size + 1) _ A.length A rfl ((owns_drewN ho5 nq).alloc _) _ _ x y rfl (cells_two_new _ _ _ _) (by omega) (by simp; omega) ?_)
        intro v' w1 ho1 hg1 hat1
        have hb1 : Below w.heap.size w w1 := ((below_drewN hb nq).alloc (by simp; omega) _).grown hg1 (by simp; omega) (fun g hg => by have := owns_ge ho5 g hg; omega)
        have hr1 := (grown_block hg1 (b := w.heap.size) (B := w.heap.size + 1) (by simp; omega) (by omega) (owns_ge ho5)).trans ((Below.heap_alloc _ _ _ (by simp; omega)).trans HB.out)
        have ho6' := hap.kept ((owns_drewN ho6 nq).alloc _) hg1
        have hap' := hap.step2 ho6 hat1 (by first | omega | (simp; omega) | simp)
        clear hg1 hat1
        go_wp2
        go_roundw
        case rel => exact ⟨k + 1, A ++ [(x, y)], B, p', q', by omega, by go_num, HN2.out, by simp; omega, by omega, by simpa using ho1, ho6', hap', hr1, hb1⟩
        case measure => simp [intOf]; omega
      · have dx : decide (y < p') = false := by simpa using hx
        by_cases hq : q' < x
        · have HN2 : Hid (refSt (l.take (k + 1)) (p, q) = (A, B ++ [(x, y)], (p', q'))) := by show _ = _; rw [HN.out]; simp [refStep, hx, hq]
          clear HN hx
          go_wp2
          go_quiet (fail)
          go_wp2
          go_quiet (fail)
          go_upto_region 11 with fail
          go_wp2_with ((with_reducible refine at_slot 80 ?_); refine append_R_at (o := ⟨some 80, _, _, _, _, _⟩) rfl _ _ rfl (w.heap.size + 1) _ B.length B rfl ((owns_drewN ho6 _).alloc _) _ _ x y rfl (cells_two_new _ _ _ _) (by omega) (by simp; omega) ?_)
          intro v' w1 ho1 hg1 hat1
          have hb1 : Below w.heap.size w w1 := ((below_drewN hb _).alloc (by simp; omega) _).grown hg1 (by simp; omega) (fun g hg => by have := owns_ge ho6 g hg; omega)
          have hr1 := (grown_block hg1 (b := w.heap.size) (B := w.heap.size + 1) (by simp; omega) (by omega) (owns_ge ho6)).trans ((Below.heap_alloc _ _ _ (by simp; omega)).trans HB.out)
          have ho5' := hap.symm.kept ((owns_drewN ho5 _).alloc _) hg1
          have hap' := hap.symm.step2 ho5 hat1 (by first | omega | (simp; omega) | simp)
          clear hg1 hat1
          go_wp2
          go_roundw
          case rel => exact ⟨k + 1, A, B ++ [(x, y)], p', q', by omega, by go_num, HN2.out, by omega, by simp; omega, ho5', by simpa using ho1, hap'.symm, hr1, hb1⟩
          case measure => simp [intOf]; omega
        · have HN2 : Hid (refSt (l.take (k + 1)) (p, q) = (A, B, (min p' x, max q' y))) := by show _ = _; rw [HN.out]; simp [refStep, hx, hq]
          have dq : decide (q' < x) = false := by simpa using hq
          clear HN hx hq
          go_wp2
          go_quiet (fail)
          go_wp2
          go_quiet (fail)
          go_wp2
          go_region
          go_wp2
          go_roundw
          case rel =>
            refine ⟨k + 1, A, B, min p' x, max q' y, by omega, by go_num, HN2.out, by omega, by omega, ownsRow_setCell_below (ownsRow_setCell_below (owns_drewN ho5 _) (by simp) _) (by simp) _, ownsRow_setCell_below (ownsRow_setCell_below (owns_drewN ho6 _) (by simp) _) (by simp) _, hap, ?_, ((below_drewN hb _).setCell (Nat.le_refl _) _).setCell (Nat.le_refl _) _⟩
            rw [show min p' x = if x < p' then x else p' from by omega, show max q' y = if q' < y then y else q' from by omega]
            exact set_two (w := wr.drewN _) HB.out _ _
          case measure => simp [intOf]; omega
    · obtain ⟨ao6, cap6, rfl, hcap6, hm6⟩ := Sl.shape (sl_of_owns ho6)
      have HM : Hid (addR l (p, q) = A ++ [(p', q')] ++ B) := by
        show _ = _
        have := HST.out
        rw [List.take_of_length_le hge] at this
        simp only [addR, this]
      clear HST
      go_upto_region 12 with fail
      go_wp2_with ((with_reducible refine at_slot 84 ?_); refine append_R (o := ⟨some 84, _, _, _, _, _⟩) rfl _ _ rfl (w.heap.size + 1) _ A.length A rfl (ho5.alloc _) _ _ p' q' rfl (cells_two_new _ _ _ _) (by omega) (by simp; omega) ?_)
      intro v3 w3 ho3 hg3
      have hb3 : Below w.heap.size w w3 := (hb.alloc hz _).grown hg3 (by simp; omega) (fun g hg => by have := owns_ge ho5 g hg; omega)
      have hs3 : w.heap.size ≤ w3.heap.size := hb3.size
      have hrd3 := (sl_of_owns (hap.kept (ho6.alloc _) hg3)).rd
      clear hg3
      go_wp2_with ((with_reducible refine at_slot 86 ?_); refine append_Rs (o := ⟨some 86, _, _, _, _, _⟩) rfl _ _ rfl w.heap.size _ (A.length + 1) (A ++ [(p', q')]) rfl (owns_base ho3 (by omega)) _ _ _ B rfl rfl hrd3 (by omega) hs3 ?_)
      intro v4 w4 ho4 hg4
      have hb4 : Below w.heap.size w w4 := hb3.grown hg4 hs3 (fun g hg => by have := owns_ge ho3 g hg; omega)
      have hlen : A.length + 1 + B.length = (addR l (p, q)).length := by rw [HM.out]; simp; omega
      have ho9 : w4.ownsRow w.heap.size 78 2 v4 (addR l (p, q)).length (cellsR (addR l (p, q))) := by rw [← hlen, HM.out]; simpa using ho4
      clear hlen hg4 HM
      go_wp2
      go_ret
      exact ⟨_, rfl, ho9, hb4⟩

end Go.Proofs.Ytckonmlcgfbojaa
