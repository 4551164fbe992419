/- The walk of ranges.Add. -/
import Derived.Test.YtckonmlcgfbojaaWkA
import Derived.Test.YtckonmlcgfbojaaLib
namespace Go.Proofs.Ytckonmlcgfbojaa
open Go.RowKit

def mergeS : List Rg → Rg → List Rg
  | [], r => [r]
  | x :: t, r => if x.1 ≤ r.2 then mergeS t (min r.1 x.1, max r.2 x.2) else r :: x :: t
def addT : List Rg → Rg → List Rg
  | [], r => [r]
  | x :: t, r => if x.2 < r.1 then x :: addT t r else mergeS (x :: t) r
/-- ranges.Add, ref.Add. -/
def addS (l : List Rg) (r : Rg) : List Rg := if r.1 ≥ r.2 ∨ r.1 < 0 ∨ r.2 > 1073741824 then l else addT l r

theorem addT_drop (l : List Rg) (r : Rg) (k : Nat) (hk : k < l.length) (h : l[k].2 < r.1) : l.take k ++ addT (l.drop k) r = l.take (k + 1) ++ addT (l.drop (k + 1)) r := by
  rw [take_snoc l k hk, List.drop_eq_getElem_cons hk, addT, if_pos h, List.append_assoc]; rfl
theorem addT_drop' (l : List Rg) (r : Rg) (k : Nat) (hk : k < l.length) (h : ¬ l[k].2 < r.1) : addT (l.drop k) r = mergeS (l.drop k) r := by
  rw [List.drop_eq_getElem_cons hk, addT, if_neg h]
theorem mergeS_drop (l : List Rg) (r : Rg) (k : Nat) (hk : k < l.length) (h : l[k].1 ≤ r.2) : mergeS (l.drop k) r = mergeS (l.drop (k + 1)) (min r.1 l[k].1, max r.2 l[k].2) := by
  rw [List.drop_eq_getElem_cons hk, mergeS, if_pos h]
theorem mergeS_drop' (l : List Rg) (r : Rg) (k : Nat) (hk : k < l.length) (h : ¬ l[k].1 ≤ r.2) : mergeS (l.drop k) r = r :: l.drop k := by
  rw [List.drop_eq_getElem_cons hk, mergeS, if_neg h]

set_option maxHeartbeats 4000000 in
theorem add_yes (v : Value) (l : List Rg) (p q : Int) (w : World) (h : SlR w v l) (hl : l.length < 1000000) (h0 : p < q) (h1 : 0 ≤ p) (h2 : q ≤ 1073741824) :
    Calls Try.prog 30 #[v, .agg #[.int .i64 p, .int .i64 q]] w (RetRow w 2 78 (addT l (p, q)).length (cellsR (addT l (p, q)))) := by
  obtain ⟨ao, cap, rfl, hcap, hm⟩ := Sl.shape h
  obtain ⟨iR, hiR, hz0, hz1, hz2⟩ := info_parts Try.infoR
  have d0 : decide (q ≤ p) = false := by simpa using h0
  have d1 : decide (p < 0) = false := by simpa using h1
  have d2 : decide (1073741824 < q) = false := by simpa using h2
  go_enter Try.func30, Try.ntmps30
  go_upto_block 0 with fail
  go_cut [5, 6] (fun vo ix wr => ∃ k : Nat, k ≤ l.length ∧ ix = .int .i64 k ∧ wr.ownsRow (w.heap.size + 1) 78 2 vo k (cellsR (l.take k)) ∧ addT l (p, q) = l.take k ++ mergeS (l.drop k) (p, q) ∧
    wr.heap[w.heap.size]? = some (.cells #[.int .i64 p, .int .i64 q] 78 (0, 0)) ∧ Below w.heap.size w wr)
  case first =>
    go_wp2
    go_loopw [5, 6] (fun vo ix wr => ∃ k : Nat, k ≤ l.length ∧ ix = .int .i64 k ∧ wr.ownsRow (w.heap.size + 1) 78 2 vo k (cellsR (l.take k)) ∧ addT l (p, q) = l.take k ++ addT (l.drop k) (p, q) ∧
      wr.heap[w.heap.size]? = some (.cells #[.int .i64 p, .int .i64 q] 78 (0, 0)) ∧ Below w.heap.size w wr) (fun _ ix _ => l.length - (intOf ix).toNat)
    case atStart => exact ⟨0, Nat.zero_le _, rfl, World.ownsRow_nil _ _ _ _, rfl, heap_alloc_new w _, (Below.refl _ _).alloc (Nat.le_refl _) _⟩
    case round =>
      obtain ⟨k, hk, rfl, ho, ha, hrb, hb⟩ := hrel
      have HA := Lib.hid ha
      clear ha
      obtain ⟨c0, c1, f0, f1, hbs⟩ := two_cells hrb
      have HB := Lib.hid hrb
      clear hrb
      rcases Nat.lt_or_ge k l.length with hlt | hge
      · obtain ⟨b, off, rfl, hbl, hc1, hc2⟩ := h.pair hb (Nat.le_refl _) k hlt
        have HS := Lib.hid (take_snoc l k hlt)
        have HD := Lib.hid (addT_drop l (p, q) k hlt)
        have HD' := Lib.hid (addT_drop' l (p, q) k hlt)
        generalize l[k] = r at *
        obtain ⟨x, y⟩ := r
        simp only at hc1 hc2
        by_cases hx : y < p
        · go_wp2
          go_quiet (fail)
          go_wp2_with (((with_reducible refine at_slot 46 ?_); refine append_R (o := ⟨some 46, _, _, _, _, _⟩) rfl _ _ rfl (w.heap.size + 1) _ k (l.take k) rfl ((owns_drewN ho nq).alloc _) _ _ x y rfl (cells_two_new _ _ _ _) (by omega) (by simp; omega) ?_))
          intro v' w1 ho1 hg1
          have hb1 : Below w.heap.size w w1 := ((below_drewN hb nq).alloc (by simp; omega) _).grown hg1 (by simp; omega) (fun g hg => by have := owns_ge ho g hg; omega)
          have hr1 := (grown_block hg1 (b := w.heap.size) (B := w.heap.size + 1) (by simp; omega) (by omega) (owns_ge ho)).trans ((Below.heap_alloc _ _ _ (by simp; omega)).trans HB.out)
          clear hg1
          go_wp2
          go_roundw
          case rel => exact ⟨k + 1, by omega, by go_num, by rw [HS.out]; exact ho1, by rw [HA.out]; exact HD.out hx, hr1, hb1⟩
          case measure => simp [intOf]; omega
        · have dx : decide (y < p) = false := by simpa using hx
          have HM : Hid (addT l (p, q) = l.take k ++ mergeS (l.drop k) (p, q)) := by show _ = _; rw [HA.out, HD'.out hx]
          clear hx HD HD' HA
          go_wp2
          go_quiet (fail)
          go_wp2_with fail
          go_meet
          exact ⟨k, hk, rfl, owns_drewN ho _, HM.out, HB.out, below_drewN hb _⟩
      · have dx : decide (k < l.length) = false := by simpa using hge
        have HM : Hid (addT l (p, q) = l.take k ++ mergeS (l.drop k) (p, q)) := by show _ = _; rw [HA.out, List.drop_eq_nil_of_le hge]; rfl
        clear HA
        go_wp2
        go_quiet (fail)
        go_wp2_with fail
        go_meet
        exact ⟨k, hk, rfl, owns_drewN ho _, HM.out, HB.out, below_drewN hb _⟩
  case rest =>
    obtain ⟨k, hk, rfl, ho, ha, hrb, hb⟩ := hcut
    obtain ⟨ao5, cap5, rfl, hcap5, hm5⟩ := Sl.shape (sl_of_owns ho)
    have HA := Lib.hid ha
    have HRB := Lib.hid hrb
    clear ha hrb
    go_upto_block 2 with fail
    go_cut [6] (fun ix w2 => ∃ (j : Nat) (p' q' : Int), j ≤ l.length ∧ ix = .int .i64 j ∧ w2.ownsRow (w.heap.size + 1) 78 2 (.slice ao5 k cap5) k (cellsR (l.take k)) ∧ addT l (p, q) = l.take k ++ ((p', q') :: l.drop j) ∧
      w2.heap[w.heap.size]? = some (.cells #[.int .i64 p', .int .i64 q'] 78 (0, 0)) ∧ Below w.heap.size w w2)
    case first =>
      go_wp2
      go_loopw [6] (fun ix w2 => ∃ (j : Nat) (p' q' : Int), j ≤ l.length ∧ ix = .int .i64 j ∧ w2.ownsRow (w.heap.size + 1) 78 2 (.slice ao5 k cap5) k (cellsR (l.take k)) ∧ addT l (p, q) = l.take k ++ mergeS (l.drop j) (p', q') ∧
          w2.heap[w.heap.size]? = some (.cells #[.int .i64 p', .int .i64 q'] 78 (0, 0)) ∧ Below w.heap.size w w2) (fun ix _ => l.length - (intOf ix).toNat)
      case atStart => exact ⟨k, p, q, hk, rfl, ho, HA.out, HRB.out, hb⟩
      case round =>
        obtain ⟨j, p', q', hj, rfl, ho2, ha2, hrb2, hb2⟩ := hrel
        have HA2 := Lib.hid ha2
        clear ha2 ho HRB HA hb
        obtain ⟨e0, e1, g0, g1, hbs2⟩ := two_cells hrb2
        have HB2 := Lib.hid hrb2
        clear hrb2
        rcases Nat.lt_or_ge j l.length with hlt2 | hge2
        · obtain ⟨b2, off2, rfl, hbl2, hd1, hd2⟩ := h.pair hb2 (Nat.le_refl _) j hlt2
          have HD := Lib.hid (mergeS_drop l (p', q') j hlt2)
          have HD' := Lib.hid (mergeS_drop' l (p', q') j hlt2)
          generalize l[j] = r at *
          obtain ⟨x2, y2⟩ := r
          simp only at hd1 hd2
          by_cases hx2 : x2 ≤ q'
          · go_wp2
            go_quiet (fail)
            go_wp2
            go_region
            go_wp2
            go_roundw
            case rel =>
              refine ⟨j + 1, min p' x2, max q' y2, by omega, by go_num, ownsRow_setCell_below (ownsRow_setCell_below (owns_drewN ho2 _) (by simp) _) (by simp) _, by rw [HA2.out, HD.out hx2], ?_, ((below_drewN hb2 _).setCell (Nat.le_refl _) _).setCell (Nat.le_refl _) _⟩
              rw [show min p' x2 = if x2 < p' then x2 else p' from by omega, show max q' y2 = if q' < y2 then y2 else q' from by omega]
              exact set_two (w := wr.drewN (nq + 1)) HB2.out _ _
            case measure => simp [intOf]; omega
          · have dx2 : decide (x2 ≤ q') = false := by simpa using hx2
            have HM : Hid (addT l (p, q) = l.take k ++ ((p', q') :: l.drop j)) := by show _ = _; rw [HA2.out, HD'.out hx2]
            clear hx2 HD HD' HA2
            go_wp2
            go_quiet (fail)
            go_wp2_with fail
            go_meet
            exact ⟨j, p', q', hj, rfl, owns_drewN ho2 _, HM.out, HB2.out, below_drewN hb2 _⟩
        · have dx2 : decide (j < l.length) = false := by simpa using hge2
          have HM : Hid (addT l (p, q) = l.take k ++ ((p', q') :: l.drop j)) := by show _ = _; rw [HA2.out, List.drop_eq_nil_of_le hge2]; rfl
          clear HA2
          go_wp2
          go_quiet (fail)
          go_wp2_with fail
          go_meet
          exact ⟨j, p', q', hj, rfl, owns_drewN ho2 _, HM.out, HB2.out, below_drewN hb2 _⟩
    case rest =>
      obtain ⟨j, p', q', hj, rfl, ho2, ha2, hrb2, hb2⟩ := hcut
      have HM2 := Lib.hid ha2
      clear ha2 ho HRB HA hb
      obtain ⟨e0, e1, g0, g1, hbs2⟩ := two_cells hrb2
      clear hrb2
      go_wp2
      go_region_law (refine stepR_grows rfl (.tmp 86) (.tmp 88) rfl _ k (l.take k) rfl (Rd.drewN_alloc (n := 1) (sl_of_owns ho2).rd _) (by simp; omega) _ _ p' q' rfl (cells_two_new _ _ _ _) (by omega) ?_; intro v3 w3 ho3 hg3)
      have hb3 : Below w.heap.size w w3 := ((below_drewN hb2 1).alloc (by simp; omega) _).grown hg3 (by simp; omega) (by simp)
      have hs3 : w.heap.size ≤ w3.heap.size := hb3.size
      have hrd3 : Rd w3 ao (cellsR l) := (Sl.rd h).keep hb3 (Nat.le_refl _)
      clear hg3
      go_wp2_with (first
        | ((with_reducible refine at_slot 93 ?_); refine wpList_slice_from (o := ⟨some 93, _, _, _, _, _⟩) rfl _ _ _ rfl 78 iR 2 Try.underlying28 hiR hz1 ao l.length cap j (cellsR l) rfl rfl hj hcap hrd3 (length_cellsR l) ?_)
        | ((with_reducible refine at_slot 94 ?_); refine append_Rs (o := ⟨some 94, _, _, _, _, _⟩) rfl _ _ rfl w.heap.size _ (k + 1) (l.take k ++ [(p', q')]) rfl (owns_base ho3 (by simp; omega)) _ _ _ (l.drop j) rfl (by simp) (by assumption) (by omega) hs3 ?_))
      intro ao9 hrd9
      rw [cellsR_drop] at hrd9
      go_wp2_with ((with_reducible refine at_slot 94 ?_); refine append_Rs (o := ⟨some 94, _, _, _, _, _⟩) rfl _ _ rfl w.heap.size _ (k + 1) (l.take k ++ [(p', q')]) rfl (owns_base ho3 (by simp; omega)) _ _ _ (l.drop j) rfl (by simp) hrd9 (by omega) hs3 ?_)
      intro v4 w4 ho4 hg4
      have hb4 : Below w.heap.size w w4 := hb3.grown hg4 hs3 (fun g hg => by have := owns_ge ho3 g hg; simp at this; omega)
      have hs4 : w.heap.size ≤ w4.heap.size := hb4.size
      have hlen : k + 1 + (l.length - j) = (addT l (p, q)).length := by rw [HM2.out]; simp; omega
      have ho5 : w4.ownsRow w.heap.size 78 2 v4 (addT l (p, q)).length (cellsR (addT l (p, q))) := by rw [← hlen, HM2.out]; simpa using ho4
      have hsl4 : SlR w4 v4 (addT l (p, q)) := sl_of_owns ho5
      have hlen2 : (addT l (p, q)).length < 1000000000 := by omega
      clear hlen hg4 HM2 ho5
      go_wp2_with fail
      refine (own_any _ _ _ hsl4 hlen2).mono ?_
      rintro e w5 ⟨v5, rfl, ho5, hb5⟩
      go_wp2
      go_ret
      exact ⟨_, rfl, owns_base ho5 hs4, hb4.trans (hb5.mono hs4)⟩

end Go.Proofs.Ytckonmlcgfbojaa
