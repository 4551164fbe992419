/- The walk of Find; of Grant's closures. -/
import Derived.Test.YtckonmlcgfbojaaLSa
import Derived.Test.YtckonmlcgfbojaaLWkI
namespace Go.Proofs.Ytckonmlcgfbojaa
open Go.RowKit

def zLs : Ls := ⟨0, 0, 0, 0, [], [], []⟩
def zLsC : LsC := ⟨0, 0, 0, 0, ⟨none, 0, 0⟩, ⟨none, 0, 0⟩, ⟨none, 0, 0⟩⟩
theorem lsM_zero (w : World) : LsM w zLsC zLs := ⟨rfl, rfl, rfl, rfl, SlT.nil _ _ _, SlR.nil _, Sl.nil _ _⟩
/-- A lease, and whether it is there. -/
def findS (b : Bk) (d ep : Int) : Ls × Bool := if 0 ≤ atIx b.ls d ep then (b.ls.getD (atIx b.ls d ep).toNat zLs, true) else (zLs, false)
def RetFind (w : World) (r : Ls × Bool) (e : Ending) (w' : World) : Prop := ∃ (x' : LsC), e = .returned (.tuple #[aLs x', .bool r.2]) ∧ LsM w' x' r.1 ∧ Below w.heap.size w w'

theorem set_all7 {w : World} {b : Nat} {a0 a1 a2 a3 a4 a5 a6 : Value} {t : TypeId} (h : w.heap[b]? = some (.cells #[a0, a1, a2, a3, a4, a5, a6] t (0, 0))) (x0 x1 x2 x3 x4 x5 x6 : Value) :
    (((((((w.setCell ⟨b, 0, none⟩ x0).setCell ⟨b, 1, none⟩ x1).setCell ⟨b, 2, none⟩ x2).setCell ⟨b, 3, none⟩ x3).setCell ⟨b, 4, none⟩ x4).setCell ⟨b, 5, none⟩ x5).setCell ⟨b, 6, none⟩ x6).heap[b]? = some (.cells #[x0, x1, x2, x3, x4, x5, x6] t (0, 0)) := by
  simp [World.setCell, Array.getElem?_modify, h]

set_option maxRecDepth 100000 in
set_option maxHeartbeats 4000000 in
theorem find_any (x : BkC) (b : Bk) (d ep : Int) (w : World) (h : BkM w x b) (hl : BkB b) :
    Calls Try.prog 18 #[aBk x, .int .i64 d, .int .i64 ep] w (RetFind w (findS b d ep)) := by
  obtain ⟨⟨ca, cn, cc⟩, ⟨fa, f_n, fc⟩, ⟨la, ln, lc⟩, ⟨ba, b_n, bc⟩⟩ := x
  obtain ⟨a1, a2, a3, a4⟩ := b
  have hls := h.l
  obtain ⟨xs, hx, hxa⟩ := hls
  have hB := hl.each
  have hnl := hl.nl
  simp only [Sv.v] at hx hB hxa hnl
  obtain ⟨q3, g3, g4⟩ := Sl.lens (s := ⟨la, ln, lc⟩) hx
  simp only at q3 g3 g4
  subst q3
  have HLEN := Lib.hid hxa.len
  have HXA := Lib.hid hxa
  have HB := Lib.hid hB
  have hxl : xs.length < 1000000 := by have := HLEN.out; omega
  clear hxa hB
  have hb1 : Below w.heap.size w ((w.alloc (.cells #[.slice ca cn cc, .slice fa f_n fc, .slice la xs.length lc, .slice ba b_n bc] 32)).alloc (.cells #[.int .i64 0, .int .i64 0, .int .i64 0, .int .i64 0, .slice none 0 0, .slice none 0 0, .slice none 0 0] 45)) := ((Below.refl _ _).alloc (Nat.le_refl _) _).alloc (by simp) _
  have HK1 := Lib.hid (alloc_first w (.cells #[.slice ca cn cc, .slice fa f_n fc, .slice la xs.length lc, .slice ba b_n bc] 32) (.cells #[.int .i64 0, .int .i64 0, .int .i64 0, .int .i64 0, .slice none 0 0, .slice none 0 0, .slice none 0 0] 45))
  have HK2 := Lib.hid (alloc_second w (.cells #[.slice ca cn cc, .slice fa f_n fc, .slice la xs.length lc, .slice ba b_n bc] 32) (.cells #[.int .i64 0, .int .i64 0, .int .i64 0, .int .i64 0, .slice none 0 0, .slice none 0 0, .slice none 0 0] 45))
  have hz2 : w.heap.size + 1 < ((w.alloc (.cells #[.slice ca cn cc, .slice fa f_n fc, .slice la xs.length lc, .slice ba b_n bc] 32)).alloc (.cells #[.int .i64 0, .int .i64 0, .int .i64 0, .int .i64 0, .slice none 0 0, .slice none 0 0, .slice none 0 0] 45)).heap.size := by simp
  have HL1 : Hid (SlL ((w.alloc (.cells #[.slice ca cn cc, .slice fa f_n fc, .slice la xs.length lc, .slice ba b_n bc] 32)).alloc (.cells #[.int .i64 0, .int .i64 0, .int .i64 0, .int .i64 0, .slice none 0 0, .slice none 0 0, .slice none 0 0] 45)) (.slice la xs.length lc) a3) := Lib.hid (SlL.keep ⟨xs, hx, HXA.out⟩ hb1 (Nat.le_refl _))
  have HBW := Lib.hid hb1
  clear hb1 h hl
  change Calls Try.prog _ #[.agg #[.slice ca cn cc, .slice fa f_n fc, .slice la xs.length lc, .slice ba b_n bc], .int .i64 d, .int .i64 ep] w _
  go_enter Try.func18, Try.ntmps18
  go_wp2_with fail
  generalize (w.alloc (.cells #[.slice ca cn cc, .slice fa f_n fc, .slice la xs.length lc, .slice ba b_n bc] 32)).alloc (.cells #[.int .i64 0, .int .i64 0, .int .i64 0, .int .i64 0, .slice none 0 0, .slice none 0 0, .slice none 0 0] 45) = w2 at *
  refine (at_any ⟨⟨ca, cn, cc⟩, ⟨fa, f_n, fc⟩, ⟨la, xs.length, lc⟩, ⟨ba, b_n, bc⟩⟩ a3 d ep _ HL1.out).mono ?_
  rintro e w3 ⟨rfl, hb3⟩
  have hbw3 := HBW.out.trans (hb3.mono HBW.out.size)
  have HQ1 := Lib.hid (block_below HK1.out hb3 (by omega))
  have HQ2 := Lib.hid (block_below HK2.out hb3 hz2)
  have hz3 : w.heap.size + 1 < w3.heap.size := (Array.getElem?_eq_some_iff.1 HQ2.out).1
  clear hb3
  obtain ⟨d0, d1, d2, d3, _⟩ := four_cells HQ1.out
  obtain ⟨n0, n1, n2, n3, n4, n5, n6, _⟩ := seven_cells HQ2.out
  have f0 := seven_free HQ2.out 0
  have f1 := seven_free HQ2.out 1
  have f2 := seven_free HQ2.out 2
  have f3 := seven_free HQ2.out 3
  have f4 := seven_free HQ2.out 4
  have f5 := seven_free HQ2.out 5
  have f6 := seven_free HQ2.out 6
  rcases idxS_spec (fun c : Ls => decide (c.dev = d) && decide (c.epoch = ep)) a3 with ⟨hi, _⟩ | ⟨k, hk, hi, _, _⟩
  · have HF : Hid (findS ⟨a1, a2, a3, a4⟩ d ep = (zLs, false)) := by show _ = _; unfold findS atIx; simp only [hi]; rfl
    rw [show atIx a3 d ep = -1 from hi]
    clear hi
    go_wp2
    refine bodyPost_ret (v := .tuple #[.agg #[.int .i64 0, .int .i64 0, .int .i64 0, .int .i64 0, .slice none 0 0, .slice none 0 0, .slice none 0 0], .bool false]) (by simp [results, Try.results18, go_sem, *]) rfl ⟨zLsC, by rw [HF.out]; rfl, by rw [HF.out]; exact lsM_zero _, ?_⟩
    exact ((((((hbw3.setCell (by simp) _).setCell (by simp) _).setCell (by simp) _).setCell (by simp) _).setCell (by simp) _).setCell (by simp) _).setCell (by simp) _
  · have HF : Hid (findS ⟨a1, a2, a3, a4⟩ d ep = (a3[k], true)) := by
      show _ = _
      unfold findS atIx
      simp only [hi]
      rw [if_pos (by omega)]
      simp [List.getD, List.getElem?_eq_getElem hk]
    rw [show atIx a3 d ep = k from hi]
    have hkx : k < xs.length := by rw [HLEN.out]; exact hk
    obtain ⟨lb, lo, rfl, hlb, e0, e1, e2, e3, e4, e5, e6⟩ := SlT.ls hx hbw3 (Nat.le_refl _) k hkx
    have klt : (k : Int) < xs.length := by omega
    have HM := Lib.hid ((All2.at HXA.out k hkx hk).keep hbw3 (Nat.le_refl _))
    have HBk := Lib.hid (HB.out a3[k] (List.getElem_mem hk))
    clear hi
    generalize a3[k] = l at *
    generalize xs[k] = z at *
    obtain ⟨z1, z2, z3, z4, ⟨z5, z6, z7⟩, ⟨z8, z9, z10⟩, ⟨z11, z12, z13⟩⟩ := z
    simp only [Sv.v] at e0 e1 e2 e3 e4 e5 e6
    go_wp2_with fail
    refine (lease_any ⟨z1, z2, z3, z4, ⟨z5, z6, z7⟩, ⟨z8, z9, z10⟩, ⟨z11, z12, z13⟩⟩ l _ HM.out HBk.out).mono ?_
    rintro e w4 ⟨⟨y1, y2, y3, y4, ⟨y5, y6, y7⟩, ⟨y8, y9, y10⟩, ⟨y11, y12, y13⟩⟩, rfl, ho, hb4⟩
    have hk2 := block_below HQ2.out hb4 hz3
    clear n0 n1 n2 n3 n4 n5 n6 f0 f1 f2 f3 f4 f5 f6
    obtain ⟨n0, n1, n2, n3, n4, n5, n6, _⟩ := seven_cells hk2
    have f0 := seven_free hk2 0
    have f1 := seven_free hk2 1
    have f2 := seven_free hk2 2
    have f3 := seven_free hk2 3
    have f4 := seven_free hk2 4
    have f5 := seven_free hk2 5
    have f6 := seven_free hk2 6
    have hbw4 := hbw3.trans (hb4.mono hbw3.size)
    have HO := Lib.hid (((((((ho.put ⟨w.heap.size + 1, 0, none⟩ hz3 (.int .i64 y1)).put ⟨w.heap.size + 1, 1, none⟩ hz3 (.int .i64 y2)).put ⟨w.heap.size + 1, 2, none⟩ hz3 (.int .i64 y3)).put ⟨w.heap.size + 1, 3, none⟩ hz3 (.int .i64 y4)).put ⟨w.heap.size + 1, 4, none⟩ hz3 (.slice y5 y6 y7)).put ⟨w.heap.size + 1, 5, none⟩ hz3 (.slice y8 y9 y10)).put ⟨w.heap.size + 1, 6, none⟩ hz3 (.slice y11 y12 y13))
    clear hk2 ho hb4 e0 e1 e2 e3 e4 e5 e6 d0 d1 d2 d3
    go_wp2
    refine bodyPost_ret (v := .tuple #[.agg #[.int .i64 y1, .int .i64 y2, .int .i64 y3, .int .i64 y4, .slice y5 y6 y7, .slice y8 y9 y10, .slice y11 y12 y13], .bool true]) (by simp [results, Try.results18, go_sem, *]) rfl ⟨⟨y1, y2, y3, y4, ⟨y5, y6, y7⟩, ⟨y8, y9, y10⟩, ⟨y11, y12, y13⟩⟩, by rw [HF.out], by rw [HF.out]; exact HO.out.m, ?_⟩
    exact ((((((hbw4.setCell (by simp) _).setCell (by simp) _).setCell (by simp) _).setCell (by simp) _).setCell (by simp) _).setCell (by simp) _).setCell (by simp) _

theorem Try.enGrant1 (args : Array Value) (W : World) : (callFunc 39 args).run Try.prog W = .ok (.enter 39 args) W := by kernel_rfl
theorem Try.enGrant2 (args : Array Value) (W : World) : (callFunc 41 args).run Try.prog W = .ok (.enter 41 args) W := by kernel_rfl

set_option maxHeartbeats 1000000 in
theorem grant1_any (x : LsC) (b1 : Nat) (d : Int) (w : World) (h1 : w.cell? ⟨b1, 0, none⟩ = some (.int .i64 d)) (hb1 : b1 < w.heap.size) :
    Calls Try.prog 39 #[aLs x, .pointer (some ⟨b1, 0, none⟩)] w fun e w' => e = .returned (.bool (decide (x.dev = d))) ∧ Below w.heap.size w w' := by
  obtain ⟨x1, x2, x3, x4, ⟨x5, x6, x7⟩, ⟨x8, x9, x10⟩, ⟨x11, x12, x13⟩⟩ := x
  go_enter Try.func39, Try.ntmps39
  go_wp2
  go_ret
  exact ⟨ret_bool (by first | rfl | (simp [*]; done) | (simp [*]; rfl)), (Below.refl _ _).alloc (Nat.le_refl _) _⟩
theorem asksG1 {w : World} {b1 : Nat} {d : Int} (h1 : w.cell? ⟨b1, 0, none⟩ = some (.int .i64 d)) (l : List LsC) : Asks Try.prog w 39 #[.pointer (some ⟨b1, 0, none⟩)] aLs (fun c => decide (c.dev = d)) l := by
  have hb1 : b1 < w.heap.size := World.block_lt_of_cell? w _ h1
  exact ⟨Try.enGrant1, fun W hW x _ => grant1_any x b1 d W (held_below h1 hW hb1) (Nat.lt_of_lt_of_le hb1 hW.size)⟩

set_option maxHeartbeats 1000000 in
theorem grant2_any (c : Wn) (b : Nat) (key : ByteArray) (w : World) (hc : w.cell? ⟨b, 0, none⟩ = some (.string key)) (hb : b < w.heap.size) :
    Calls Try.prog 41 #[aWn c, .pointer (some ⟨b, 0, none⟩)] w fun e w' => e = .returned (.bool (decide (c.key = key))) ∧ Below w.heap.size w w' := by
  have HK := Lib.hid (key_eq c.key key)
  obtain ⟨c1, c2, c3, c4⟩ := c
  go_enter Try.func41, Try.ntmps41
  go_wp2
  go_ret
  exact ⟨ret_bool HK.out, (Below.refl _ _).alloc (Nat.le_refl _) _⟩
theorem asksG2 {w : World} {b : Nat} {key : ByteArray} (hc : w.cell? ⟨b, 0, none⟩ = some (.string key)) (l : List Wn) : Asks Try.prog w 41 #[.pointer (some ⟨b, 0, none⟩)] aWn (fun c => decide (c.key = key)) l := by
  have hb : b < w.heap.size := World.block_lt_of_cell? w _ hc
  exact ⟨Try.enGrant2, fun W hW x _ => grant2_any x b key W (held_below hc hW hb) (Nat.lt_of_lt_of_le hb hW.size)⟩

end Go.Proofs.Ytckonmlcgfbojaa
