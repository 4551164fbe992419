/- The walk of counters. -/
import Derived.Test.YtckonmlcgfbojaaLSc
import Derived.Test.YtckonmlcgfbojaaLWkI
namespace Go.Proofs.Ytckonmlcgfbojaa
open Go.RowKit

def ctOk (cs : List Ct) (i : Nat) (c : Ct) : Bool := mayS c && (decide (ctIx cs c.key = i) && (decide (0 ≤ c.up) && (decide (0 ≤ c.down) && (decide (c.up ≤ c.hi - c.start) && decide (c.down ≤ c.start - c.lo)))))
/-- Counters that may be. -/
def ctS (cs : List Ct) : Bool := decide (AllIx (ctOk cs) cs) && decide (cs.length ≤ 4)

set_option maxRecDepth 100000 in
set_option maxHeartbeats 4000000 in
theorem counters_any (b : BkC) (cs : List Ct) (w : World) (hc : SlCt w b.c.v cs) (hkey : ∀ c ∈ cs, c.key.size ≤ maxLen) :
    Calls Try.prog 63 #[aBk b] w fun e w' => e = .returned (.bool (ctS cs)) ∧ Below w.heap.size w w' := by
  obtain ⟨⟨b1, b2, b3⟩, ⟨b4, b5, b6⟩, ⟨b7, b8, b9⟩, ⟨b10, b11, b12⟩⟩ := b
  simp only [Sv.v] at hc
  obtain ⟨hxn, hcap, hmax⟩ := Sl.lens (s := ⟨b1, b2, b3⟩) hc
  simp only at hxn hcap hmax
  subst hxn
  have HKEY := Lib.hid hkey
  clear hkey
  have HK0 := Lib.hid (heap_alloc_new w (.cells #[.slice b1 cs.length b3, .slice b4 b5 b6, .slice b7 b8 b9, .slice b10 b11 b12] 32))
  change Calls Try.prog _ #[.agg #[.slice b1 cs.length b3, .slice b4 b5 b6, .slice b7 b8 b9, .slice b10 b11 b12]] w _
  go_enter Try.func63, Try.ntmps63
  go_wp2
  go_loopw [8] (fun vk wr => ∃ k : Nat, k ≤ cs.length ∧ vk = .int .i64 k ∧ AllTo (ctOk cs) cs k ∧ Below w.heap.size w wr ∧ wr.heap[w.heap.size]? = some (.cells #[.slice b1 cs.length b3, .slice b4 b5 b6, .slice b7 b8 b9, .slice b10 b11 b12] 32 (0, 0))) (fun vk _ => cs.length - (intOf vk).toNat)
  case atStart => exact ⟨0, Nat.zero_le _, rfl, allTo_zero _ _, (Below.refl _ _).alloc (Nat.le_refl _) _, HK0.out⟩
  case round =>
    obtain ⟨k, hk, rfl, hA, hb, hk1⟩ := hrel
    have HA := Lib.hid hA
    clear HK0
    obtain ⟨d0, d1, d2, d3, _⟩ := four_cells hk1
    have hzr : w.heap.size < wr.heap.size := (Array.getElem?_eq_some_iff.1 hk1).1
    have HK1 := Lib.hid hk1
    clear hA hk1
    rcases Nat.lt_or_ge k cs.length with hlt | hge
    · obtain ⟨bb, off, rfl, hbl, e0, e1, e2, e3, e4, e5, e6⟩ := SlT.ct hc hb (Nat.le_refl _) k hlt
      have klt : (k : Int) < cs.length := by omega
      have HNO := Lib.hid (allIx_no (f := ctOk cs) hlt)
      have HYES := Lib.hid (AllTo.step HA.out hlt)
      have HOK : Hid (ctOk cs k cs[k] = (mayS cs[k] && (decide (ctIx cs cs[k].key = k) && (decide (0 ≤ cs[k].up) && (decide (0 ≤ cs[k].down) && (decide (cs[k].up ≤ cs[k].hi - cs[k].start) && decide (cs[k].down ≤ cs[k].start - cs[k].lo))))))) := rfl
      have HM := Lib.hid (HKEY.out cs[k] (List.getElem_mem hlt))
      have HBD := Lib.hid (mayS_bd (c := cs[k]))
      generalize ctOk cs k cs[k] = ok at *
      generalize cs[k] = c at *
      have HMAY := Lib.hid (fun W => may_any c W HM.out)
      obtain ⟨r1, r2, r3, r4, r5, r6, r7⟩ := c
      simp only at e0 e1 e2 e3 e4 e5 e6
      have hbA : Below w.heap.size w (wr.alloc (.cells #[.string r1, .int .i64 r2, .int .i64 r3, .int .i64 r4, .int .i64 r5, .int .i64 r6, .int .i64 r7] 25)) := hb.alloc (by omega) _
      have HC7 := Lib.hid (SlT.keep hc hbA (Nat.le_refl _))
      have HBA := Lib.hid hbA
      have HA1 := Lib.hid ((Below.heap_alloc wr (.cells #[.string r1, .int .i64 r2, .int .i64 r3, .int .i64 r4, .int .i64 r5, .int .i64 r6, .int .i64 r7] 25) w.heap.size hzr).trans HK1.out)
      have HNEW := Lib.hid (heap_alloc_new wr (.cells #[.string r1, .int .i64 r2, .int .i64 r3, .int .i64 r4, .int .i64 r5, .int .i64 r6, .int .i64 r7] 25))
      have hzA : wr.heap.size < (wr.alloc (.cells #[.string r1, .int .i64 r2, .int .i64 r3, .int .i64 r4, .int .i64 r5, .int .i64 r6, .int .i64 r7] 25)).heap.size := by simp
      clear hbA HK1
      go_wp2_with fail
      generalize wr.alloc (.cells #[.string r1, .int .i64 r2, .int .i64 r3, .int .i64 r4, .int .i64 r5, .int .i64 r6, .int .i64 r7] 25) = w7 at *
      obtain ⟨mb, hmb⟩ : ∃ mb, mayS ⟨r1, r2, r3, r4, r5, r6, r7⟩ = mb := ⟨_, rfl⟩
      have hmay := HMAY.out w7
      rw [hmb] at hmay HOK HBD
      refine hmay.mono ?_
      rintro e w1 ⟨rfl, hb1⟩
      have hk7 := block_below HNEW.out hb1 hzA
      have hkb := block_below HA1.out hb1 (by omega)
      obtain ⟨n0, n1, n2, n3, n4, n5, n6, _⟩ := seven_cells hk7
      clear d0 d1 d2 d3
      obtain ⟨d0, d1, d2, d3, _⟩ := four_cells hkb
      have HC1 := Lib.hid (SlT.keep HC7.out hb1 (Nat.le_refl _))
      have hz1 := hb1.size
      have hbw1 := HBA.out.trans (hb1.mono HBA.out.size)
      have hk71 := Lib.hid hk7
      have hkb1 := Lib.hid hkb
      clear hk7 hkb hb1 HC7 HA1 HNEW hmay hmb HMAY
      cases mb with
      | false =>
        have HNO2 := Lib.hid (HNO.out (by rw [HOK.out]; rfl))
        go_wp2
        go_ret
        exact ⟨ret_bool (by unfold ctS; rw [HNO2.out]; rfl), hbw1⟩
      | true =>
        obtain ⟨g1, g2, g3, g4⟩ := HBD.out (by first | rfl | trivial)
        generalize hci : ctIx cs r1 = ci at *
        have HCI := Lib.hid hci
        clear hci
        go_wp2_with ((go_at_call 28; refine (counter_any ⟨⟨some ⟨bb, off, none⟩, cs.length, b3⟩, ⟨b4, b5, b6⟩, ⟨b7, b8, b9⟩, ⟨b10, b11, b12⟩⟩ cs r1 _ HC1.out).mono ?_); rw [HCI.out]; rintro e w2 ⟨rfl, hb2⟩; have hk2 := block_below hk71.out hb2 (by omega); obtain ⟨n0, n1, n2, n3, n4, n5, n6, _⟩ := seven_cells hk2; have hbw2 := hbw1.trans (hb2.mono hbw1.size); have hkb2 := Lib.hid (block_below hkb1.out hb2 (by omega)); clear hk2 hb2)
        all_goals first
          | (go_ret
             exact ⟨ret_bool (by unfold ctS; rw [HNO.out (by rw [HOK.out]; first | (simp; omega) | (simp [*]; done) | (simp [*]; omega))]; rfl), hbw2⟩)
          | (go_roundw
             case rel => exact ⟨k + 1, by omega, by go_num, HYES.out (by rw [HOK.out]; first | (simp; omega) | (simp [*]; done) | (simp [*]; omega)), hbw2, hkb2.out⟩
             case measure => simp [intOf]; omega)
    · by_cases h4 : cs.length ≤ 4
      · have d4 : decide ((cs.length : Int) ≤ 4) = true := by simp; omega
        go_wp2
        go_ret
        exact ⟨ret_bool (by unfold ctS; rw [AllTo.all HA.out hge]; simp; omega), hb⟩
      · have d4 : decide ((cs.length : Int) ≤ 4) = false := by simp; omega
        go_wp2
        go_ret
        exact ⟨ret_bool (by unfold ctS; rw [AllTo.all HA.out hge]; simp; omega), hb⟩

end Go.Proofs.Ytckonmlcgfbojaa
