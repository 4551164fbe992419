/- The walks of slices, counters. -/
import Derived.Test.YtckonmlcgfbojaaLSb
import Derived.Test.YtckonmlcgfbojaaLIx
import Derived.Test.YtckonmlcgfbojaaLWkG
namespace Go.Proofs.Ytckonmlcgfbojaa
open Go.RowKit

def scOk (cs : List Ct) (l : List Sc) (i : Nat) (s : Sc) : Bool := decide (idxS (fun c => decide (c.key = s.key)) l = i) && (decide (0 ≤ ctIx cs s.key) && (decide (0 ≤ s.uu) && (decide (s.uu ≤ s.up) && (decide (0 ≤ s.ud) && decide (s.ud ≤ s.down)))))
/-- A lease's slices that may be. -/
def scS (cs : List Ct) (l : List Sc) : Bool := decide (AllIx (scOk cs l) l)

theorem five_cells {w : World} {b : Nat} {a0 a1 a2 a3 a4 : Value} {t : TypeId} (h : w.heap[b]? = some (.cells #[a0, a1, a2, a3, a4] t (0, 0))) :
    w.cell? ⟨b, 0, none⟩ = some a0 ∧ w.cell? ⟨b, 1, none⟩ = some a1 ∧ w.cell? ⟨b, 2, none⟩ = some a2 ∧ w.cell? ⟨b, 3, none⟩ = some a3 ∧ w.cell? ⟨b, 4, none⟩ = some a4 := by
  simp [World.cell?, h]

set_option maxRecDepth 100000 in
set_option maxHeartbeats 2000000 in
theorem slices_any (x : LsC) (l : List Sc) (b : BkC) (cs : List Ct) (w : World) (h : SlSc w x.s.v l) (hc : SlCt w b.c.v cs) :
    Calls Try.prog 59 #[aLs x, aBk b] w fun e w' => e = .returned (.bool (scS cs l)) ∧ Below w.heap.size w w' := by
  obtain ⟨x1, x2, x3, x4, ⟨x5, x6, x7⟩, ⟨x8, x9, x10⟩, ⟨x11, x12, x13⟩⟩ := x
  obtain ⟨⟨b1, b2, b3⟩, ⟨b4, b5, b6⟩, ⟨b7, b8, b9⟩, ⟨b10, b11, b12⟩⟩ := b
  simp only [Sv.v] at h hc
  obtain ⟨hxn, hcap, hmax⟩ := Sl.lens (s := ⟨x5, x6, x7⟩) h
  simp only at hxn hcap hmax
  subst hxn
  have k1 := alloc_first w (.cells #[.int .i64 x1, .int .i64 x2, .int .i64 x3, .int .i64 x4, .slice x5 l.length x7, .slice x8 x9 x10, .slice x11 x12 x13] 107) (.cells #[.slice b1 b2 b3, .slice b4 b5 b6, .slice b7 b8 b9, .slice b10 b11 b12] 32)
  have k2 := alloc_second w (.cells #[.int .i64 x1, .int .i64 x2, .int .i64 x3, .int .i64 x4, .slice x5 l.length x7, .slice x8 x9 x10, .slice x11 x12 x13] 107) (.cells #[.slice b1 b2 b3, .slice b4 b5 b6, .slice b7 b8 b9, .slice b10 b11 b12] 32)
  have HK1 := Lib.hid k1
  have HK2 := Lib.hid k2
  clear k1 k2
  change Calls Try.prog _ #[.agg #[.int .i64 x1, .int .i64 x2, .int .i64 x3, .int .i64 x4, .slice x5 l.length x7, .slice x8 x9 x10, .slice x11 x12 x13], .agg #[.slice b1 b2 b3, .slice b4 b5 b6, .slice b7 b8 b9, .slice b10 b11 b12]] w _
  go_enter Try.func59, Try.ntmps59
  go_wp2
  go_loopw [11] (fun vk wr => ∃ k : Nat, k ≤ l.length ∧ vk = .int .i64 k ∧ AllTo (scOk cs l) l k ∧ Below w.heap.size w wr ∧ wr.heap[w.heap.size]? = some (.cells #[.int .i64 x1, .int .i64 x2, .int .i64 x3, .int .i64 x4, .slice x5 l.length x7, .slice x8 x9 x10, .slice x11 x12 x13] 107 (0, 0)) ∧ wr.heap[w.heap.size + 1]? = some (.cells #[.slice b1 b2 b3, .slice b4 b5 b6, .slice b7 b8 b9, .slice b10 b11 b12] 32 (0, 0))) (fun vk _ => l.length - (intOf vk).toNat)
  case atStart => exact ⟨0, Nat.zero_le _, rfl, allTo_zero _ _, ((Below.refl _ _).alloc (Nat.le_refl _) _).alloc (by simp) _, HK1.out, HK2.out⟩
  case round =>
    obtain ⟨k, hk, rfl, hA, hb, hk1, hk2⟩ := hrel
    have HA := Lib.hid hA
    clear HK1 HK2
    obtain ⟨_, _, _, _, c4, _, _, _⟩ := seven_cells hk1
    obtain ⟨d0, d1, d2, d3, _⟩ := four_cells hk2
    have hzr : w.heap.size + 1 < wr.heap.size := (Array.getElem?_eq_some_iff.1 hk2).1
    have HK1 := Lib.hid hk1
    have HK2 := Lib.hid hk2
    clear hA hk1 hk2
    rcases Nat.lt_or_ge k l.length with hlt | hge
    · obtain ⟨bb, off, rfl, hbl, e0, e1, e2, e3, e4⟩ := SlT.sc h hb (Nat.le_refl _) k hlt
      have klt : (k : Int) < l.length := by omega
      have HNO := Lib.hid (allIx_no (f := scOk cs l) hlt)
      have HYES := Lib.hid (AllTo.step HA.out hlt)
      have HOK : Hid (scOk cs l k l[k] = (decide (idxS (fun c => decide (c.key = l[k].key)) l = k) && (decide (0 ≤ ctIx cs l[k].key) && (decide (0 ≤ l[k].uu) && (decide (l[k].uu ≤ l[k].up) && (decide (0 ≤ l[k].ud) && decide (l[k].ud ≤ l[k].down))))))) := rfl
      generalize scOk cs l k l[k] = ok at *
      generalize l[k] = s at *
      obtain ⟨s1, s2, s3, s4, s5⟩ := s
      simp only at e0 e1 e2 e3 e4
      have hbA : Below w.heap.size w (wr.alloc (.cells #[.string s1, .int .i64 s2, .int .i64 s3, .int .i64 s4, .int .i64 s5] 51)) := hb.alloc (by omega) _
      have HS7 := Lib.hid (SlT.keep h hbA (Nat.le_refl _))
      have HC7 := Lib.hid (SlT.keep hc hbA (Nat.le_refl _))
      have HBA := Lib.hid hbA
      have HA1 := Lib.hid ((Below.heap_alloc wr (.cells #[.string s1, .int .i64 s2, .int .i64 s3, .int .i64 s4, .int .i64 s5] 51) w.heap.size (by omega)).trans HK1.out)
      have HA2 := Lib.hid ((Below.heap_alloc wr (.cells #[.string s1, .int .i64 s2, .int .i64 s3, .int .i64 s4, .int .i64 s5] 51) (w.heap.size + 1) hzr).trans HK2.out)
      have HNEW := Lib.hid (heap_alloc_new wr (.cells #[.string s1, .int .i64 s2, .int .i64 s3, .int .i64 s4, .int .i64 s5] 51))
      have hzA : wr.heap.size < (wr.alloc (.cells #[.string s1, .int .i64 s2, .int .i64 s3, .int .i64 s4, .int .i64 s5] 51)).heap.size := by simp
      clear hbA HK1 HK2
      go_wp2_with fail
      generalize wr.alloc (.cells #[.string s1, .int .i64 s2, .int .i64 s3, .int .i64 s4, .int .i64 s5] 51) = w7 at *
      have hn0 : w7.cell? ⟨wr.heap.size, 0, none⟩ = some (.string s1) := by simp [World.cell?, HNEW.out]
      refine (idxSc_any _ l _ _ _ _ HS7.out (asksSc hn0 l)).mono ?_
      rintro e w1 ⟨rfl, hb1⟩
      generalize (idxS (fun c => decide (c.key = s1)) l) = q at *
      have hk7 := block_below HNEW.out hb1 hzA
      have hkb := block_below HA2.out hb1 (by omega)
      obtain ⟨n0, n1, n2, n3, n4⟩ := five_cells hk7
      obtain ⟨d0, d1, d2, d3, _⟩ := four_cells hkb
      have HC1 := Lib.hid (SlT.keep HC7.out hb1 (Nat.le_refl _))
      have hz1 := hb1.size
      have hbw1 := HBA.out.trans (hb1.mono HBA.out.size)
      have hk71 := Lib.hid hk7
      have hkb1 := Lib.hid hkb
      have hka1 := Lib.hid (block_below HA1.out hb1 (by omega))
      clear hn0 hk7 hkb hb1 HS7 HC7 HA1 HA2 HNEW
      by_cases hq : q = k
      · subst hq
        generalize hci : ctIx cs s1 = ci at *
        have HCI := Lib.hid hci
        clear hci
        go_wp2_with ((go_at_call 28; refine (counter_any ⟨⟨b1, b2, b3⟩, ⟨b4, b5, b6⟩, ⟨b7, b8, b9⟩, ⟨b10, b11, b12⟩⟩ cs s1 _ HC1.out).mono ?_); rw [HCI.out]; rintro e w2 ⟨rfl, hb2⟩; have hk2 := block_below hk71.out hb2 (by omega); obtain ⟨n0, n1, n2, n3, n4⟩ := five_cells hk2; have hbw2 := hbw1.trans (hb2.mono hbw1.size); have hka2 := Lib.hid (block_below hka1.out hb2 (by omega)); have hkb2 := Lib.hid (block_below hkb1.out hb2 (by omega)); clear hk2 hb2)
        all_goals first
          | (go_ret
             exact ⟨ret_bool (HNO.out (by rw [HOK.out]; first | (simp; omega) | (simp [*]; done) | (simp [*]; omega))).symm, hbw2⟩)
          | (go_roundw
             case rel => exact ⟨k + 1, by omega, by go_num, HYES.out (by rw [HOK.out]; first | (simp; omega) | (simp [*]; done) | (simp [*]; omega)), hbw2, hka2.out, hkb2.out⟩
             case measure => simp [intOf]; omega)
      · have dq : (q == (k : Int)) = false := by simpa using hq
        have dq2 : (q != (k : Int)) = true := by simpa using hq
        have hok : ok = false := by rw [HOK.out]; simp [hq]
        have HNO2 := Lib.hid (HNO.out hok)
        clear hok hq
        go_wp2
        go_ret
        exact ⟨ret_bool HNO2.out.symm, hbw1⟩
    · go_wp2
      go_ret
      exact ⟨ret_bool (AllTo.all HA.out hge).symm, hb⟩

end Go.Proofs.Ytckonmlcgfbojaa
