/- The walk of the law RangesOrders. -/
import Derived.Test.YtbbjnjfakgjpcaaWkJ
import Derived.Test.YtbbjnjfakgjpcaaPl2
namespace Go.Proofs.Ytbbjnjfakgjpcaa
open Go.RowKit

theorem same_yes (v v' : Value) (l m : List Rg) (w : World) (h : SlR w v l) (h' : SlR w v' m) (e : l = m) :
    Calls Try.prog 11 #[v, v'] w fun e w' => e = .returned (.bool true) ∧ Below w.heap.size w w' :=
  (same_any v v' l m w h h').mono fun _ _ hh => by rw [decide_eq_true e] at hh; exact hh

set_option maxHeartbeats 4000000 in
theorem orders_walk (v v' : Value) (ns ms : List Int) (w : World) (h : SlI w v ns) (h' : SlI w v' ms) (hI : I64 ns) (hI' : I64 ms) :
    Calls Try.prog 3 #[v, v'] w fun e w' => e = .returned (.bool true) ∧ Below w.heap.size w w' := by
  have ra := rowP_ofS ns
  have rb := rowP_ofS ms
  have la := length_ofS ns
  have lb := length_ofS ms
  have HXY := Lib.hid (orders_xy ra rb)
  have HXZ := Lib.hid (orders_xz ra rb)
  go_enter Try.func3, Try.ntmps3
  go_wp2_with fail
  refine (known_any _).mono ?_
  rintro e w0 ⟨rfl, hb0⟩
  go_wp2_with fail
  refine (of_any _ _ _ (Sl.keep h hb0 (Nat.le_refl _)) hI).mono ?_
  rintro e w1 ⟨va, rfl, hsa, hb1⟩
  have hb01 := hb0.trans (hb1.mono hb0.size)
  go_wp2_with fail
  refine (of_any _ _ _ (Sl.keep h' hb01 (Nat.le_refl _)) hI').mono ?_
  rintro e w2 ⟨vb, rfl, hsb, hb2⟩
  have hb02 := hb01.trans (hb2.mono hb01.size)
  have hsa2 := hsa.keep hb2 (Nat.le_refl _)
  clear hb0 hb1 hb01 hb2 hsa h h'
  generalize ofS ns = a at *
  generalize ofS ms = b at *
  obtain ⟨aa, capa, rfl, hcapa, hma⟩ := Sl.shape hsa2
  obtain ⟨ab, capb, rfl, hcapb, hmb⟩ := Sl.shape hsb
  go_upto_block 0 with fail
  go_cut [7, 9] (fun v7 _ wx => SlR wx v7 (addAll a b) ∧ Below w2.heap.size w2 wx)
  case first =>
    go_wp2
    go_loopw [7, 9] (fun v7 ix wr => ∃ k : Nat, k ≤ b.length ∧ ix = .int .i64 k ∧ SlR wr v7 (addAll a (b.take k)) ∧ Below w2.heap.size w2 wr) (fun _ ix _ => b.length - (intOf ix).toNat)
    case atStart => exact ⟨0, Nat.zero_le _, rfl, hsa2, Below.refl _ _⟩
    case round =>
      obtain ⟨k, hk, rfl, hs, hb⟩ := hrel
      have hll := length_addAll (b.take k) a
      have hlt := List.length_take_le k b
      rcases Nat.lt_or_ge k b.length with hlt | hge
      · obtain ⟨b1, off, rfl, hbl, hc1, hc2⟩ := hsb.pair hb (Nat.le_refl _) k hlt
        have HS : Hid (addAll a (b.take (k + 1)) = addS (addAll a (b.take k)) b[k]) := by show _ = _; rw [take_snoc b k hlt, addAll_snoc]
        generalize b[k] = r at *
        obtain ⟨x, y⟩ := r
        simp only at hc1 hc2
        generalize addAll a (b.take k) = X at *
        have hX : X.length < 1000000 := by omega
        go_wp2_with fail
        refine (add_any _ X x y _ hs hX).mono ?_
        rintro e w5 ⟨v5, rfl, ho5, hb5⟩
        have hs5 : SlR w5 v5 (addS X (x, y)) := sl_of_owns ho5
        have hb6 := hb.trans (hb5.mono hb.size)
        clear ho5 hb5
        go_wp2
        go_roundw
        case rel => exact ⟨k + 1, by omega, by go_num, by rw [HS.out]; exact hs5, hb6⟩
        case measure => simp [intOf]; omega
      · rw [List.take_of_length_le hge] at hs
        go_wp2
        go_meet
        exact ⟨hs, hb⟩
  case rest =>
  obtain ⟨hx, hbx⟩ := hcut
  have hxs := hbx.size
  go_upto_block 2 with fail
  go_cut [8, 10] (fun v8 _ wx => SlR wx v8 (addAll b a.reverse) ∧ Below wc.heap.size wc wx)
  case first =>
    go_wp2
    go_loopw [8, 10] (fun v8 ix wr => ∃ m : Nat, m ≤ a.length ∧ ix = .int .i64 ((m : Int) - 1) ∧ SlR wr v8 (addAll b (a.drop m).reverse) ∧ Below wc.heap.size wc wr) (fun _ ix _ => (intOf ix + 1).toNat)
    case atStart => exact ⟨a.length, Nat.le_refl _, rfl, by simpa [addAll] using hsb.keep hbx (Nat.le_refl _), Below.refl _ _⟩
    case round =>
      obtain ⟨m, hm, rfl, hs, hb⟩ := hrel
      cases m with
      | zero =>
        rw [show (((0 : Nat) : Int) - 1) = -1 from rfl]
        rw [List.drop_zero] at hs
        go_wp2
        go_meet
        exact ⟨hs, hb⟩
      | succ j =>
        rw [show (((j + 1 : Nat) : Int) - 1) = (j : Int) from by omega]
        have hlj : j < a.length := by omega
        have hsa3 := hsa2.keep hbx (Nat.le_refl _)
        obtain ⟨b1, off, hao, hbl, hc1, hc2⟩ := hsa3.pair hb (Nat.le_refl _) j hlj
        cases hao
        have hll := length_addAll (a.drop (j + 1)).reverse b
        have hl2 : ((a.drop (j + 1)).reverse).length ≤ 20 := by simp; omega
        have HS : Hid (addAll b (a.drop j).reverse = addS (addAll b (a.drop (j + 1)).reverse) a[j]) := by show _ = _; rw [List.drop_eq_getElem_cons hlj, List.reverse_cons, addAll_snoc]
        generalize a[j] = r at *
        obtain ⟨x, y⟩ := r
        simp only at hc1 hc2
        generalize addAll b (a.drop (j + 1)).reverse = X at *
        have hX : X.length < 1000000 := by omega
        clear hsa3 hll hl2
        go_wp2_with fail
        refine (add_any _ X x y _ hs hX).mono ?_
        rintro e w5 ⟨v5, rfl, ho5, hb5⟩
        have hs5 : SlR w5 v5 (addS X (x, y)) := sl_of_owns ho5
        have hb6 := hb.trans (hb5.mono hb.size)
        clear ho5 hb5
        go_wp2
        go_roundw
        case rel => exact ⟨j, by omega, rfl, by rw [HS.out]; exact hs5, hb6⟩
        case measure => simp [intOf]
  case rest =>
  obtain ⟨hy, hby⟩ := hcut
  have hx2 := hx.keep hby (Nat.le_refl _)
  have hsa3 := (hsa2.keep hbx (Nat.le_refl _)).keep hby (Nat.le_refl _)
  have hbz := hb02.trans ((hbx.mono hb02.size).trans (hby.mono (Nat.le_trans hb02.size hbx.size)))
  clear hsa2 hsb hb02 hbx hby hx hxs
  rw [← HXY.out] at hy
  have hlx := length_addAll b a
  generalize addAll a b = X at *
  go_upto_block 4 with fail
  go_cut [11, 12] (fun v11 _ wx => SlR wx v11 (addAll X a) ∧ Below wc.heap.size wc wx)
  case first =>
    go_wp2
    go_loopw [11, 12] (fun v11 ix wr => ∃ k : Nat, k ≤ a.length ∧ ix = .int .i64 k ∧ SlR wr v11 (addAll X (a.take k)) ∧ Below wc.heap.size wc wr) (fun _ ix _ => a.length - (intOf ix).toNat)
    case atStart => exact ⟨0, Nat.zero_le _, rfl, hx2, Below.refl _ _⟩
    case round =>
      obtain ⟨k, hk, rfl, hs, hb⟩ := hrel
      have hll := length_addAll (a.take k) X
      have hlt := List.length_take_le k a
      rcases Nat.lt_or_ge k a.length with hlt | hge
      · obtain ⟨b1, off, hao, hbl, hc1, hc2⟩ := hsa3.pair hb (Nat.le_refl _) k hlt
        cases hao
        have HS : Hid (addAll X (a.take (k + 1)) = addS (addAll X (a.take k)) a[k]) := by show _ = _; rw [take_snoc a k hlt, addAll_snoc]
        generalize a[k] = r at *
        obtain ⟨x, y⟩ := r
        simp only at hc1 hc2
        generalize addAll X (a.take k) = Y at *
        have hY : Y.length < 1000000 := by omega
        go_wp2_with fail
        refine (add_any _ Y x y _ hs hY).mono ?_
        rintro e w5 ⟨v5, rfl, ho5, hb5⟩
        have hs5 : SlR w5 v5 (addS Y (x, y)) := sl_of_owns ho5
        have hb6 := hb.trans (hb5.mono hb.size)
        clear ho5 hb5
        go_wp2
        go_roundw
        case rel => exact ⟨k + 1, by omega, by go_num, by rw [HS.out]; exact hs5, hb6⟩
        case measure => simp [intOf]; omega
      · rw [List.take_of_length_le hge] at hs
        go_wp2
        go_meet
        exact ⟨hs, hb⟩
  case rest =>
  obtain ⟨hz, hbz2⟩ := hcut
  rw [← HXZ.out] at hz
  have hx3 := hx2.keep hbz2 (Nat.le_refl _)
  have hy3 := hy.keep hbz2 (Nat.le_refl _)
  have hbz3 := hbz.trans (hbz2.mono hbz.size)
  go_wp2_with fail
  refine (same_yes _ _ _ _ _ hx3 hy3 rfl).mono ?_
  rintro e w7 ⟨rfl, hb7⟩
  have hx4 := hx3.keep hb7 (Nat.le_refl _)
  have hz4 := hz.keep hb7 (Nat.le_refl _)
  go_wp2_with fail
  refine (same_yes _ _ _ _ _ hx4 hz4 rfl).mono ?_
  rintro e w8 ⟨rfl, hb8⟩
  have hb9 := hbz3.trans ((hb7.mono hbz3.size).trans (hb8.mono (Nat.le_trans hbz3.size hb7.size)))
  go_wp2
  go_ret
  exact ⟨rfl, hb9⟩

end Go.Proofs.Ytbbjnjfakgjpcaa
