/- The walk of lease. -/
import Derived.Test.YtckonmlcgfbojaaLWkE
import Derived.Test.YtckonmlcgfbojaaLCl
import Derived.Test.YtckonmlcgfbojaaHeld
namespace Go.Proofs.Ytckonmlcgfbojaa
open Go.RowKit

/-- No list is greater than any that these calls make. -/
structure LsB (l : Ls) : Prop where
  s : l.sl.length < 1000000
  i : l.ids.length < 1000000
  u : l.used.length < 1000000
/-- A lease whose rows are the call's own. -/
structure LsO (w : World) (B : Nat) (x : LsC) (l : Ls) : Prop where
  dev : x.dev = l.dev
  epoch : x.epoch = l.epoch
  unt : x.unt = l.unt
  last : x.last = l.last
  s : w.ownsRow B 51 5 x.s.v l.sl.length (cellsT cSc l.sl)
  i : w.ownsRow B 78 2 x.i.v l.ids.length (cellsR l.ids)
  u : w.ownsRow B 3 1 x.u.v l.used.length (cellsI l.used)
theorem LsO.m {w : World} {B : Nat} {x : LsC} {l : Ls} (h : LsO w B x l) : LsM w x l := ⟨h.dev, h.epoch, h.unt, h.last, sl_of_owns h.s, sl_of_owns h.i, sl_of_owns h.u⟩
theorem LsO.keep {w w' : World} {B C : Nat} {x : LsC} {l : Ls} (h : LsO w B x l) (hb : Below C w w') (hC : w.heap.size ≤ C) : LsO w' B x l := ⟨h.dev, h.epoch, h.unt, h.last, owns_keep h.s hb hC, owns_keep h.i hb hC, owns_keep h.u hb hC⟩

/-- A cell ahead of a row of the call's own is written. -/
theorem owns_put {w : World} {base : Nat} {e : TypeId} {E : Nat} {v : Value} {n : Nat} {xs : List Value} (h : w.ownsRow base e E v n xs) (p : Addr) (hp : p.block < base) (u : Value) : (w.setCell p u).ownsRow base e E v n xs := by
  obtain ⟨h1, h2⟩ := h
  refine ⟨h1, ?_⟩
  rcases h2 with h2 | ⟨g, cap, cur, hv, hg, hh, r⟩
  · exact .inl h2
  · refine .inr ⟨g, cap, cur, hv, hg, ?_, r⟩
    have : (w.setCell p u).heap[g]? = w.heap[g]? := by simp [World.setCell, Array.getElem?_modify]; omega
    rw [this]; exact hh
theorem set_seven {w : World} {b : Nat} {a0 a1 a2 a3 a4 a5 a6 : Value} {t : TypeId} (h : w.heap[b]? = some (.cells #[a0, a1, a2, a3, a4, a5, a6] t (0, 0))) (x y z : Value) :
    (((w.setCell ⟨b, 4, none⟩ x).setCell ⟨b, 5, none⟩ y).setCell ⟨b, 6, none⟩ z).heap[b]? = some (.cells #[a0, a1, a2, a3, x, y, z] t (0, 0)) := by
  simp [World.setCell, Array.getElem?_modify, h]
theorem set_other3 (w : World) (b c : Nat) (h : b ≠ c) (x y z : Value) (i j k : Nat) : (((w.setCell ⟨b, i, none⟩ x).setCell ⟨b, j, none⟩ y).setCell ⟨b, k, none⟩ z).heap[c]? = w.heap[c]? := by
  simp [World.setCell, Array.getElem?_modify, h]
theorem seven_free {w : World} {b : Nat} {a0 a1 a2 a3 a4 a5 a6 : Value} {t : TypeId} (h : w.heap[b]? = some (.cells #[a0, a1, a2, a3, a4, a5, a6] t (0, 0))) (o : Nat) : w.frozen? ⟨b, o, none⟩ = false := by
  simp [World.frozen?, h]

def RetLs (w : World) (l : Ls) (e : Ending) (w' : World) : Prop := ∃ x', e = .returned (aLs x') ∧ LsO w' w.heap.size x' l ∧ Below w.heap.size w w'

set_option maxRecDepth 100000 in
set_option maxHeartbeats 4000000 in
theorem lease_any (x : LsC) (l : Ls) (w : World) (h : LsM w x l) (hl : LsB l) :
    Calls Try.prog 44 #[aLs x] w (RetLs w l) := by
  obtain ⟨d, ep, un, la, ⟨sa, sn, sc⟩, ⟨ia, i_n, ic⟩, ⟨ua, u_n, uc⟩⟩ := x
  obtain ⟨l1, l2, l3, l4, l5, l6, l7⟩ := l
  obtain ⟨q1, q2, q3, q4, hs, hi, hu⟩ := h
  obtain ⟨b1, b2, b3⟩ := hl
  simp only at q1 q2 q3 q4 hs hi hu b1 b2 b3
  subst q1 q2 q3 q4
  have hb1 : Below w.heap.size w ((w.alloc (.cells #[.int .i64 d, .int .i64 ep, .int .i64 un, .int .i64 la, .slice sa sn sc, .slice ia i_n ic, .slice ua u_n uc] 45)).alloc (.cells #[.int .i64 0, .int .i64 0, .int .i64 0, .int .i64 0, .slice none 0 0, .slice none 0 0, .slice none 0 0] 45)) := ((Below.refl _ _).alloc (Nat.le_refl _) _).alloc (by simp) _
  have k1 := alloc_first w (.cells #[.int .i64 d, .int .i64 ep, .int .i64 un, .int .i64 la, .slice sa sn sc, .slice ia i_n ic, .slice ua u_n uc] 45) (.cells #[.int .i64 0, .int .i64 0, .int .i64 0, .int .i64 0, .slice none 0 0, .slice none 0 0, .slice none 0 0] 45)
  have k2 := alloc_second w (.cells #[.int .i64 d, .int .i64 ep, .int .i64 un, .int .i64 la, .slice sa sn sc, .slice ia i_n ic, .slice ua u_n uc] 45) (.cells #[.int .i64 0, .int .i64 0, .int .i64 0, .int .i64 0, .slice none 0 0, .slice none 0 0, .slice none 0 0] 45)
  have hz2 : w.heap.size + 1 < ((w.alloc (.cells #[.int .i64 d, .int .i64 ep, .int .i64 un, .int .i64 la, .slice sa sn sc, .slice ia i_n ic, .slice ua u_n uc] 45)).alloc (.cells #[.int .i64 0, .int .i64 0, .int .i64 0, .int .i64 0, .slice none 0 0, .slice none 0 0, .slice none 0 0] 45)).heap.size := by simp
  have HK1 := Lib.hid k1
  have HK2 := Lib.hid k2
  clear k1 k2
  change Calls Try.prog _ #[.agg #[.int .i64 d, .int .i64 ep, .int .i64 un, .int .i64 la, .slice sa sn sc, .slice ia i_n ic, .slice ua u_n uc]] w _
  go_enter Try.func44, Try.ntmps44
  go_upto_region 1 with fail
  generalize (w.alloc (.cells #[.int .i64 d, .int .i64 ep, .int .i64 un, .int .i64 la, .slice sa sn sc, .slice ia i_n ic, .slice ua u_n uc] 45)).alloc (.cells #[.int .i64 0, .int .i64 0, .int .i64 0, .int .i64 0, .slice none 0 0, .slice none 0 0, .slice none 0 0] 45) = w2 at *
  have hs2 := hs.keep hb1 (Nat.le_refl _)
  have hi2 := SlR.keep hi hb1 (Nat.le_refl _)
  have hu2 := SlI.keep hu hb1 (Nat.le_refl _)
  clear hs hi hu
  go_cut [] (fun wx => ∃ v1 v2 v3 : Sv, wx.heap[w.heap.size]? = some (.cells #[.int .i64 d, .int .i64 ep, .int .i64 un, .int .i64 la, v1.v, v2.v, v3.v] 45 (0, 0)) ∧ wx.heap[w.heap.size + 1]? = some (.cells #[.int .i64 0, .int .i64 0, .int .i64 0, .int .i64 0, .slice none 0 0, .slice none 0 0, .slice none 0 0] 45 (0, 0)) ∧
    wx.ownsRow (w.heap.size + 2) 51 5 v1.v l5.length (cellsT cSc l5) ∧ wx.ownsRow (w.heap.size + 2) 78 2 v2.v l6.length (cellsR l6) ∧ wx.ownsRow (w.heap.size + 2) 3 1 v3.v l7.length (cellsI l7) ∧ Below w.heap.size w wx ∧ w.heap.size + 1 < wx.heap.size)
  case first =>
    refine wp_region_T 10 (fun w' => Below w2.heap.size w2 w') (by kernel_rfl) ?_
    refine anyT_take (i := 0) (v := .pointer (some ⟨w.heap.size, 4, none⟩)) rfl rfl (by kernel_rfl) (by kernel_rfl) (by kernel_rfl) (by kernel_rfl) (by kernel_rfl) (by decide) (fun _ _ _ h => h) (.inl ⟨rfl, fun w' hw => ?_⟩) (Below.refl _ _).drew ?_
    · go_simp
    refine anyT_take (i := 1) (v := .slice sa sn sc) rfl rfl (by kernel_rfl) (by kernel_rfl) (by kernel_rfl) (by kernel_rfl) (by kernel_rfl) (by decide) (fun _ _ _ h => h) (.inl ⟨rfl, fun w' hw => ?_⟩) (Below.refl _ _).drew ?_
    · obtain ⟨_, _, _, _, c4, c5, c6, _⟩ := seven_cells (block_below HK1.out hw (by omega))
      go_simp
    refine anyT_take (i := 3) (v := .pointer (some ⟨w.heap.size, 5, none⟩)) rfl rfl (by kernel_rfl) (by kernel_rfl) (by kernel_rfl) (by kernel_rfl) (by kernel_rfl) (by decide) (fun _ _ _ h => h) (.inl ⟨rfl, fun w' hw => ?_⟩) (Below.refl _ _).drew ?_
    · go_simp
    refine anyT_take (i := 4) (v := .slice ia i_n ic) rfl rfl (by kernel_rfl) (by kernel_rfl) (by kernel_rfl) (by kernel_rfl) (by kernel_rfl) (by decide) (fun _ _ _ h => h) (.inl ⟨rfl, fun w' hw => ?_⟩) (Below.refl _ _).drew ?_
    · obtain ⟨_, _, _, _, c4, c5, c6, _⟩ := seven_cells (block_below HK1.out hw (by omega))
      go_simp
    refine anyT_take (i := 6) (v := .pointer (some ⟨w.heap.size, 6, none⟩)) rfl rfl (by kernel_rfl) (by kernel_rfl) (by kernel_rfl) (by kernel_rfl) (by kernel_rfl) (by decide) (fun _ _ _ h => h) (.inl ⟨rfl, fun w' hw => ?_⟩) (Below.refl _ _).drew ?_
    · go_simp
    refine anyT_take (i := 7) (v := .slice ua u_n uc) rfl rfl (by kernel_rfl) (by kernel_rfl) (by kernel_rfl) (by kernel_rfl) (by kernel_rfl) (by decide) (fun _ _ _ h => h) (.inl ⟨rfl, fun w' hw => ?_⟩) (Below.refl _ _).drew ?_
    · obtain ⟨_, _, _, _, c4, c5, c6, _⟩ := seven_cells (block_below HK1.out hw (by omega))
      go_simp
    refine anyT_one (i := 2) (by kernel_rfl) rfl rfl ?_
    go_simp
    refine (cloneSc_any _ l5 _ (hs2.keep (Below.refl _ _).drew (Nat.le_refl _)) (by omega)).mono ?_
    rintro e w3 ⟨v3, rfl, ho3, hb3⟩
    have hb3' : Below w2.heap.size w2 w3 := (Below.refl w2.heap.size w2).drew.trans hb3
    refine ⟨hb3', ?_⟩
    refine anyT_take (i := 9) (v := .pointer (some ⟨w.heap.size, 4, none⟩)) rfl rfl (by kernel_rfl) (by kernel_rfl) (by kernel_rfl) (by kernel_rfl) (by kernel_rfl) (by decide) (fun _ _ _ h => h) (.inl ⟨rfl, fun w' hw => ?_⟩) hb3' ?_
    · go_simp
    refine anyT_one (i := 5) (by kernel_rfl) rfl rfl ?_
    go_simp
    refine (cloneRr_any _ l6 _ (SlR.keep hi2 hb3' (Nat.le_refl _)) (by omega)).mono ?_
    rintro e w4 ⟨v4, rfl, ho4, hb4⟩
    have hb4' : Below w2.heap.size w2 w4 := hb3'.trans (hb4.mono hb3'.size)
    refine ⟨hb4', ?_⟩
    refine anyT_one (i := 8) (by kernel_rfl) rfl rfl ?_
    go_simp
    refine (cloneIn_any _ l7 _ (SlI.keep hu2 hb4' (Nat.le_refl _)) (by omega)).mono ?_
    rintro e w5 ⟨v5, rfl, ho5, hb5⟩
    have hb5' : Below w2.heap.size w2 w5 := hb4'.trans (hb5.mono hb4'.size)
    refine ⟨hb5', ?_⟩
    have hz3 := hb3'.size
    have hz4 := hb4'.size
    have hz5 := hb5'.size
    have hk5 := block_below HK1.out hb5' (by omega)
    obtain ⟨_, _, _, _, c4, c5, c6, _⟩ := seven_cells hk5
    have f4 := seven_free hk5 4
    have f5 := seven_free hk5 5
    have f6 := seven_free hk5 6
    have o3 := owns_base (base' := w.heap.size + 2) (owns_keep (owns_keep ho3 hb4 (Nat.le_refl _)) hb5 (Nat.le_refl _)) (by show _ ≤ w2.heap.size; omega)
    have o4 := owns_base (base' := w.heap.size + 2) (owns_keep ho4 hb5 (Nat.le_refl _)) (by omega)
    have o5 := owns_base (base' := w.heap.size + 2) ho5 (by omega)
    have HK5 := Lib.hid hk5
    have HK6 := Lib.hid (block_below HK2.out hb5' hz2)
    obtain ⟨ao3, cp3, rfl, _, _⟩ := owns_shape ho3
    obtain ⟨ao4, cp4, rfl, _, _⟩ := owns_shape ho4
    obtain ⟨ao5, cp5, rfl, _, _⟩ := owns_shape ho5
    have hbw : Below w.heap.size w w5 := hb1.trans (hb5'.mono hb1.size)
    clear hk5 ho3 ho4 ho5 hb3 hb4 hb5 hb3' hb4' hb5' hs2 hi2 hu2
    refine anyT_one (i := 10) (by kernel_rfl) rfl rfl ?_
    go_simp
    refine anyT_one (i := 11) (by kernel_rfl) rfl rfl ?_
    go_simp
    refine anyT_one (i := 12) (by kernel_rfl) rfl rfl ?_
    go_simp
    refine anyT_one (i := 13) (by kernel_rfl) rfl rfl ?_
    go_simp
    refine anyT_one (i := 14) (by kernel_rfl) rfl rfl ?_
    go_simp
    refine anyT_done (by kernel_rfl) ?_
    go_wp2
    go_meet
    refine ⟨⟨ao3, _, cp3⟩, ⟨ao4, _, cp4⟩, ⟨ao5, _, cp5⟩, set_seven HK5.out _ _ _, ?_, ?_, ?_, ?_, ?_, ?_⟩
    · rw [set_other3 _ _ _ (by omega)]; exact HK6.out
    · exact owns_put (owns_put (owns_put o3 _ (by show w.heap.size < _; omega) _) _ (by show w.heap.size < _; omega) _) _ (by show w.heap.size < _; omega) _
    · exact owns_put (owns_put (owns_put o4 _ (by show w.heap.size < _; omega) _) _ (by show w.heap.size < _; omega) _) _ (by show w.heap.size < _; omega) _
    · exact owns_put (owns_put (owns_put o5 _ (by show w.heap.size < _; omega) _) _ (by show w.heap.size < _; omega) _) _ (by show w.heap.size < _; omega) _
    · exact ((hbw.setCell (by simp) _).setCell (by simp) _).setCell (by simp) _
    · simp [World.setCell]; omega
  case rest =>
  obtain ⟨v1, v2, v3, hk1, hk2, o1, o2, o3, hbw, hz⟩ := hcut
  obtain ⟨c0, c1, c2, c3, c4, c5, c6, _⟩ := seven_cells hk1
  obtain ⟨d0, d1, d2, d3, d4, d5, d6, _⟩ := seven_cells hk2
  have f0 := seven_free hk2 0
  have f1 := seven_free hk2 1
  have f2 := seven_free hk2 2
  have f3 := seven_free hk2 3
  have f4 := seven_free hk2 4
  have f5 := seven_free hk2 5
  have f6 := seven_free hk2 6
  clear hk1 hk2 HK1 HK2 hs2 hi2 hu2
  obtain ⟨a1, n1, p1⟩ := v1
  obtain ⟨a2, n2, p2⟩ := v2
  obtain ⟨a3, n3, p3⟩ := v3
  simp only [Sv.v] at c4 c5 c6
  go_wp2
  refine bodyPost_ret (v := .agg #[.int .i64 d, .int .i64 ep, .int .i64 un, .int .i64 la, .slice a1 n1 p1, .slice a2 n2 p2, .slice a3 n3 p3]) (by simp [results, Try.results44, go_sem, *]) rfl ⟨⟨d, ep, un, la, ⟨a1, n1, p1⟩, ⟨a2, n2, p2⟩, ⟨a3, n3, p3⟩⟩, rfl, ?_, ?_⟩
  · refine ⟨rfl, rfl, rfl, rfl, ?_, ?_, ?_⟩
    · have hp : w.heap.size + 1 < w.heap.size + 2 := by omega
      exact owns_base (owns_put (owns_put (owns_put (owns_put (owns_put (owns_put (owns_put o1 _ hp _) _ hp _) _ hp _) _ hp _) _ hp _) _ hp _) _ hp _) (by omega)
    · have hp : w.heap.size + 1 < w.heap.size + 2 := by omega
      exact owns_base (owns_put (owns_put (owns_put (owns_put (owns_put (owns_put (owns_put o2 _ hp _) _ hp _) _ hp _) _ hp _) _ hp _) _ hp _) _ hp _) (by omega)
    · have hp : w.heap.size + 1 < w.heap.size + 2 := by omega
      exact owns_base (owns_put (owns_put (owns_put (owns_put (owns_put (owns_put (owns_put o3 _ hp _) _ hp _) _ hp _) _ hp _) _ hp _) _ hp _) _ hp _) (by omega)
  · exact ((((((hbw.setCell (by simp) _).setCell (by simp) _).setCell (by simp) _).setCell (by simp) _).setCell (by simp) _).setCell (by simp) _).setCell (by simp) _

end Go.Proofs.Ytckonmlcgfbojaa
