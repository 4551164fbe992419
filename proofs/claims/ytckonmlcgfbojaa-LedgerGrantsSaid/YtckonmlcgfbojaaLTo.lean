/- The walk of Totals. -/
import Derived.Test.YtckonmlcgfbojaaLPs
import Derived.Test.YtckonmlcgfbojaaLGe
import Derived.Test.YtckonmlcgfbojaaLCl
import Derived.ChangeKeysEq
namespace Go.Proofs.Ytckonmlcgfbojaa
open Go.RowKit

/-- What Totals asks of a book. -/
structure TotB (b : Bk) (key : ByteArray) : Prop where
  ls : ∀ x ∈ b.ls, ScN x.sl
  su : leasedU key b.ls ≤ 4611686018427387903
  sd : leasedD key b.ls ≤ 4611686018427387903
  ct : ∀ c ∈ b.cs, (-2199023255552 ≤ c.lo ∧ c.lo ≤ 2199023255552) ∧ (-2199023255552 ≤ c.hi ∧ c.hi ≤ 2199023255552) ∧ (-2199023255552 ≤ c.start ∧ c.start ≤ 2199023255552) ∧ (-2199023255552 ≤ c.up ∧ c.up ≤ 2199023255552) ∧ -2199023255552 ≤ c.down ∧ c.down ≤ 2199023255552
/-- Six numbers. -/
def RetTot (w : World) (l : List Int) (e : Ending) (w' : World) : Prop := e = .returned (.agg (l.map (Value.int .i64)).toArray) ∧ Below w.heap.size w w'

theorem two_blk {w : World} {b : Nat} {x y : Value} {t : TypeId} (h : w.heap[b]? = some (.cells #[x, y] t (0, 0))) (u v : Value) : ((w.setCell ⟨b, 0, none⟩ u).setCell ⟨b, 1, none⟩ v).heap[b]? = some (.cells #[u, v] t (0, 0)) := by
  simp [World.setCell, Array.getElem?_modify, h]
theorem six_cells {w : World} {b : Nat} {a0 a1 a2 a3 a4 a5 : Value} {t : TypeId} (h : w.heap[b]? = some (.cells #[a0, a1, a2, a3, a4, a5] t (0, 0))) :
    (w.cell? ⟨b, 0, none⟩ = some a0 ∧ w.cell? ⟨b, 1, none⟩ = some a1 ∧ w.cell? ⟨b, 2, none⟩ = some a2 ∧ w.cell? ⟨b, 3, none⟩ = some a3 ∧ w.cell? ⟨b, 4, none⟩ = some a4 ∧ w.cell? ⟨b, 5, none⟩ = some a5) ∧ ∀ o, w.frozen? ⟨b, o, none⟩ = false := by
  refine ⟨⟨?_, ?_, ?_, ?_, ?_, ?_⟩, fun o => ?_⟩ <;> simp [World.cell?, World.frozen?, h]
theorem Try.neTwo (a b : Int) (w : World) : (binOp .neq 101 (.agg #[.int .i64 a, .int .i64 b]) (.agg #[.int .i64 0, .int .i64 0])).run Try.prog w = .ok (.bool (!(decide (a = 0) && decide (b = 0)))) w := by
  have u3 := Try.underlying3
  have a3 := Try.isAgg3
  have z3 := Try.sizeOf3
  obtain ⟨i, hi, _, _, _⟩ := info_parts Try.infoIn
  have hc : Try.prog.cellsOf 3 = 1 := by kernel_rfl
  rw [run_neq_struct, show (10000 : Nat) = 9999 + 1 from rfl, run_equalIn_array w 9999 _ _ Try.underlying101 hi, hc, show List.range 2 = [0, 1] from rfl]
  simp only [Op.eqItems]
  go_simp
  by_cases g1 : a = 0 <;> by_cases g2 : b = 0 <;> simp [g1, g2]

set_option maxRecDepth 100000 in
set_option maxHeartbeats 8000000 in
theorem totals_any (x : BkC) (b : Bk) (key : ByteArray) (w : World) (h : BkM w x b) (hB : TotB b key) :
    Calls Try.prog 23 #[aBk x, .string key] w (RetTot w (totS b key)) := by
  obtain ⟨⟨ca, cn, cc⟩, ⟨fa, f_n, fc⟩, ⟨la, ln, lc⟩, ⟨ba, b_n, bc⟩⟩ := x
  obtain ⟨xs, hx, hxs⟩ := h.l
  have HLEN := Lib.hid hxs.len
  obtain ⟨hn2, hcap2, hm2⟩ := Sl.lens hx
  simp only at hn2 hcap2 hm2 hx
  subst hn2
  have HXS := Lib.hid hxs
  have HX := Lib.hid hx
  have HC := Lib.hid h.c
  obtain ⟨hn1, hcap1, hm1⟩ := Sl.lens h.c
  simp only at hn1 hcap1 hm1
  subst hn1
  have HB := Lib.hid hB
  have hb1 : Below w.heap.size w ((w.alloc (.cells #[.slice ca b.cs.length cc, .slice fa f_n fc, .slice la xs.length lc, .slice ba b_n bc] 32)).alloc (.cells #[.int .i64 0, .int .i64 0, .int .i64 0, .int .i64 0, .int .i64 0, .int .i64 0] 66)) := ((Below.refl _ _).alloc (Nat.le_refl _) _).alloc (by simp) _
  have k2 := alloc_first w (.cells #[.slice ca b.cs.length cc, .slice fa f_n fc, .slice la xs.length lc, .slice ba b_n bc] 32) (.cells #[.int .i64 0, .int .i64 0, .int .i64 0, .int .i64 0, .int .i64 0, .int .i64 0] 66)
  have k4 := alloc_second w (.cells #[.slice ca b.cs.length cc, .slice fa f_n fc, .slice la xs.length lc, .slice ba b_n bc] 32) (.cells #[.int .i64 0, .int .i64 0, .int .i64 0, .int .i64 0, .int .i64 0, .int .i64 0] 66)
  have HM := Lib.hid (h.c.keep hb1 (Nat.le_refl _))
  clear h hx hxs hB
  change Calls Try.prog _ #[.agg #[.slice ca b.cs.length cc, .slice fa f_n fc, .slice la xs.length lc, .slice ba b_n bc], .string key] w _
  go_enter Try.func23, Try.ntmps23
  go_upto_region 1 with fail
  generalize (w.alloc (.cells #[.slice ca b.cs.length cc, .slice fa f_n fc, .slice la xs.length lc, .slice ba b_n bc] 32)).alloc (.cells #[.int .i64 0, .int .i64 0, .int .i64 0, .int .i64 0, .int .i64 0, .int .i64 0] 66) = W1 at *
  obtain ⟨d0, d1, d2, d3, hx9⟩ := four_cells k2
  clear hx9
  go_wp2_with fail
  refine (counter_any ⟨⟨ca, b.cs.length, cc⟩, ⟨fa, f_n, fc⟩, ⟨la, xs.length, lc⟩, ⟨ba, b_n, bc⟩⟩ b.cs key _ HM.out).mono ?_
  rintro e W2 ⟨rfl, hb2⟩
  have hz1 : w.heap.size + 1 < W1.heap.size := (Array.getElem?_eq_some_iff.1 k4).1
  have K2 := Lib.hid (block_below k2 hb2 (by omega))
  have K4 := Lib.hid (block_below k4 hb2 hz1)
  have HBW := Lib.hid (hb1.trans (hb2.mono hb1.size))
  clear d0 d1 d2 d3 k2 k4 hb1 hb2 HM hz1
  obtain ⟨d0, d1, d2, d3, hz2⟩ := four_cells K2.out
  obtain ⟨⟨r0, r1, r2, r3, r4, r5⟩, rf⟩ := six_cells K4.out
  have f0 := rf 0
  have f1 := rf 1
  have f2 := rf 2
  have f3 := rf 3
  have f4 := rf 4
  have f5 := rf 5
  have hz4 : w.heap.size + 1 < W2.heap.size := (Array.getElem?_eq_some_iff.1 K4.out).1
  clear rf
  rcases idxS_spec (fun c : Ct => decide (c.key = key)) b.cs with ⟨hi, _⟩ | ⟨k, hk, hi, _, _⟩
  · have HF : Hid (totS b key = [0, 0, 0, 0, 0, 0]) := by show _ = _; unfold totS; rw [show ctIx b.cs key = -1 from hi]; rfl
    rw [show ctIx b.cs key = -1 from hi]
    clear hi
    go_wp2
    refine bodyPost_ret (v := .agg #[.int .i64 0, .int .i64 0, .int .i64 0, .int .i64 0, .int .i64 0, .int .i64 0]) (by simp [results, Try.results23, go_sem, *]) rfl (show RetTot _ _ _ _ from ?_)
    rw [HF.out]
    exact ⟨rfl, (((((HBW.out.setCell (by simp) _).setCell (by simp) _).setCell (by simp) _).setCell (by simp) _).setCell (by simp) _).setCell (by simp) _⟩
  · rw [show ctIx b.cs key = k from hi]
    have HF : Hid (totS b key = [b.cs[k].up, leasedU key b.ls, b.cs[k].hi - b.cs[k].start - b.cs[k].up - leasedU key b.ls, b.cs[k].down, leasedD key b.ls, b.cs[k].start - b.cs[k].lo - b.cs[k].down - leasedD key b.ls]) := by
      show _ = _
      unfold totS
      rw [show ctIx b.cs key = k from hi, if_neg (by omega)]
      simp [List.getD, List.getElem?_eq_getElem hk]
    obtain ⟨cb, co, rfl, hcb, c0, c1, c2, c3, c4, c5, c6⟩ := SlT.ct HC.out HBW.out (Nat.le_refl _) k hk
    have hcts := HB.out.ct b.cs[k] (List.getElem_mem hk)
    obtain ⟨⟨t1, t2⟩, ⟨t3, t4⟩, ⟨t5, t6⟩, ⟨t7, t8⟩, t9, t10⟩ := hcts
    have klt : (k : Int) < b.cs.length := by omega
    clear hi
    generalize hlu : leasedU key b.ls = LU at *
    generalize hld : leasedD key b.ls = LD at *
    have HLU := Lib.hid hlu
    have HLD := Lib.hid hld
    have hsu := HB.out.su
    have hsd := HB.out.sd
    rw [hlu] at hsu
    rw [hld] at hsd
    have hnn := leased_nn key b.ls HB.out.ls
    rw [hlu, hld] at hnn
    obtain ⟨hn1, hn2⟩ := hnn
    clear hlu hld
    generalize b.cs[k] = c at *
    obtain ⟨q1, q2, q3, q4, q5, q6, q7⟩ := c
    simp only at c0 c1 c2 c3 c4 c5 c6 t1 t2 t3 t4 t5 t6 t7 t8 t9 t10 HF
    obtain ⟨W3, hW3⟩ : ∃ W3, (W2.alloc (.cells #[.string q1, .int .i64 q2, .int .i64 q3, .int .i64 q4, .int .i64 q5, .int .i64 q6, .int .i64 q7] 25)).alloc (.cells #[.int .i64 0, .int .i64 0] 101) = W3 := ⟨_, rfl⟩
    have hb3 : Below W2.heap.size W2 W3 := by rw [← hW3]; exact ((Below.refl _ _).alloc (Nat.le_refl _) _).alloc (by simp) _
    have K6 : Hid (W3.heap[W2.heap.size]? = some (.cells #[.string q1, .int .i64 q2, .int .i64 q3, .int .i64 q4, .int .i64 q5, .int .i64 q6, .int .i64 q7] 25 (0, 0))) := Lib.hid (by rw [← hW3]; exact alloc_first _ _ _)
    have K7 : Hid (W3.heap[W2.heap.size + 1]? = some (.cells #[.int .i64 0, .int .i64 0] 101 (0, 0))) := Lib.hid (by rw [← hW3]; exact alloc_second _ _ _)
    have K2' := Lib.hid (block_below K2.out hb3 (by omega))
    have K4' := Lib.hid (block_below K4.out hb3 hz4)
    have HB3 := Lib.hid (HBW.out.trans (hb3.mono HBW.out.size))
    have HW3 := Lib.hid hW3
    have hcbw : cb < W2.heap.size := by omega
    clear hW3 hb3 K2 K4 HBW f0 f1 f2 f3 f4 f5 r0 r1 r2 r3 r4 r5
    go_upto_region 6 with fail
    rw [HW3.out]
    generalize hG : W2.heap.size = G at *
    have HG := Lib.hid hG
    clear hG c0 c1 c2 c3 c4 c5 c6 d0 d1 d2 d3 hz2
    obtain ⟨d0, d1, d2, d3, hx9⟩ := four_cells K2'.out
    clear hx9
    have HPART := Lib.hid (leased_part key b.ls HB.out.ls)
    have HTAKE : Hid (leasedU key (b.ls.take xs.length) = LU ∧ leasedD key (b.ls.take xs.length) = LD) := Lib.hid (by rw [HLEN.out, List.take_length]; exact ⟨HLU.out, HLD.out⟩)
    go_upto_block 0 with fail
    go_cut [] (fun wx => Below w.heap.size w wx ∧ wx.heap[w.heap.size + 1]? = some (.cells #[.int .i64 0, .int .i64 0, .int .i64 0, .int .i64 0, .int .i64 0, .int .i64 0] 66 (0, 0)) ∧ wx.heap[G]? = some (.cells #[.string q1, .int .i64 q2, .int .i64 q3, .int .i64 q4, .int .i64 q5, .int .i64 q6, .int .i64 q7] 25 (0, 0)) ∧ wx.heap[G + 1]? = some (.cells #[.int .i64 LU, .int .i64 LD] 101 (0, 0)))
    case first =>
      go_wp2
      go_loopw [27] (fun v27 wr => ∃ (i : Nat) (PU PD : Int), i ≤ xs.length ∧ v27 = .int .i64 i ∧ PU = leasedU key (b.ls.take i) ∧ PD = leasedD key (b.ls.take i) ∧ Below w.heap.size w wr ∧ wr.heap[w.heap.size]? = some (.cells #[.slice (some ⟨cb, co, none⟩) b.cs.length cc, .slice fa f_n fc, .slice la xs.length lc, .slice ba b_n bc] 32 (0, 0)) ∧ wr.heap[w.heap.size + 1]? = some (.cells #[.int .i64 0, .int .i64 0, .int .i64 0, .int .i64 0, .int .i64 0, .int .i64 0] 66 (0, 0)) ∧
        wr.heap[G]? = some (.cells #[.string q1, .int .i64 q2, .int .i64 q3, .int .i64 q4, .int .i64 q5, .int .i64 q6, .int .i64 q7] 25 (0, 0)) ∧ wr.heap[G + 1]? = some (.cells #[.int .i64 PU, .int .i64 PD] 101 (0, 0))) (fun v27 _ => xs.length - (intOf v27).toNat)
      case atStart => exact ⟨0, 0, 0, Nat.zero_le _, rfl, by simp [leasedU], by simp [leasedD], HB3.out, K2'.out, K4'.out, K6.out, K7.out⟩
      case round =>
        obtain ⟨i, PU, PD, hil0, rfl, hPU, hPD, hb, hk2, hk4, hk6, hk7⟩ := hrel
        have HPU := Lib.hid hPU
        have HPD := Lib.hid hPD
        have R2 := Lib.hid hk2
        have R4 := Lib.hid hk4
        have R6 := Lib.hid hk6
        have R7 := Lib.hid hk7
        have hzr : G + 1 < wr.heap.size := (Array.getElem?_eq_some_iff.1 hk7).1
        have hzq : w.heap.size + 1 < wr.heap.size := (Array.getElem?_eq_some_iff.1 hk4).1
        clear hPU hPD hk2 hk4 hk6 hk7 K2' K4' K6 K7 HB3 d0 d1 d2 d3
        rcases Nat.lt_or_ge i xs.length with hil | hig
        · have hil2 : i < b.ls.length := by rw [← HLEN.out]; exact hil
          obtain ⟨lb, lo, rfl, hlb, e0, e1, e2, e3, e4, e5, e6⟩ := SlT.ls HX.out hb (Nat.le_refl _) i hil
          have ilt : (i : Int) < xs.length := by omega
          have hM := (All2.at HXS.out i hil hil2).s
          have hSN := HB.out.ls b.ls[i] (List.getElem_mem hil2)
          have HST := Lib.hid (leased_step key b.ls i hil2)
          have HPT := Lib.hid (HPART.out (i + 1))
          have HPP := Lib.hid (left_part key b.ls[i].sl hSN)
          have HSN := Lib.hid hSN
          have HPN := Lib.hid (leased_nn key (b.ls.take i) (fun x hx => HB.out.ls x (List.mem_of_mem_take hx)))
          generalize b.ls[i].sl = sl at *
          generalize xs[i] = z at *
          obtain ⟨z1, z2, z3, z4, ⟨z5, z6, z7⟩, ⟨z8, z9, z10⟩, ⟨z11, z12, z13⟩⟩ := z
          simp only [Sv.v] at e0 e1 e2 e3 e4 e5 e6 hM
          obtain ⟨hzn, hzcap, hzmax⟩ := Sl.lens (s := ⟨z5, z6, z7⟩) hM
          simp only at hzn hzcap hzmax
          subst hzn
          have hA : Below wr.heap.size wr (wr.alloc (.cells #[.int .i64 z1, .int .i64 z2, .int .i64 z3, .int .i64 z4, .slice z5 sl.length z7, .slice z8 z9 z10, .slice z11 z12 z13] 45)) := (Below.refl _ _).alloc (Nat.le_refl _) _
          have A2 := Lib.hid (block_below R2.out hA (by omega))
          have A4 := Lib.hid (block_below R4.out hA hzq)
          have A6 := Lib.hid (block_below R6.out hA (by omega))
          have A7 := Lib.hid (block_below R7.out hA hzr)
          have HBA := Lib.hid (hb.trans (hA.mono hb.size))
          go_wp2
          generalize wr.alloc (.cells #[.int .i64 z1, .int .i64 z2, .int .i64 z3, .int .i64 z4, .slice z5 sl.length z7, .slice z8 z9 z10, .slice z11 z12 z13] 45) = w9 at *
          clear hA e0 e1 e2 e3 e4 e5 e6 R2 R4 R6 R7 hb hSN
          go_loopw [34] (fun v34 wr => ∃ (j : Nat) (X Y : Int), j ≤ sl.length ∧ v34 = .int .i64 j ∧ X = PU + leftU key (sl.take j) ∧ Y = PD + leftD key (sl.take j) ∧ Below w.heap.size w wr ∧ wr.heap[w.heap.size]? = some (.cells #[.slice (some ⟨cb, co, none⟩) b.cs.length cc, .slice fa f_n fc, .slice (some ⟨lb, lo, none⟩) xs.length lc, .slice ba b_n bc] 32 (0, 0)) ∧ wr.heap[w.heap.size + 1]? = some (.cells #[.int .i64 0, .int .i64 0, .int .i64 0, .int .i64 0, .int .i64 0, .int .i64 0] 66 (0, 0)) ∧
            wr.heap[G]? = some (.cells #[.string q1, .int .i64 q2, .int .i64 q3, .int .i64 q4, .int .i64 q5, .int .i64 q6, .int .i64 q7] 25 (0, 0)) ∧ wr.heap[G + 1]? = some (.cells #[.int .i64 X, .int .i64 Y] 101 (0, 0))) (fun v34 _ => sl.length - (intOf v34).toNat)
          case atStart => exact ⟨0, PU, PD, Nat.zero_le _, rfl, by simp [leftU], by simp [leftD], HBA.out, A2.out, A4.out, A6.out, A7.out⟩
          case round =>
            clear HBA A2 A4 A6 A7
            obtain ⟨j, X, Y, hj, rfl, hX, hY, hb, hk2, hk4, hk6, hk7⟩ := hrel
            have HX' := Lib.hid hX
            have HY' := Lib.hid hY
            have R2 := Lib.hid hk2
            have R4 := Lib.hid hk4
            have R6 := Lib.hid hk6
            have R7 := Lib.hid hk7
            have hzr : G + 1 < wr.heap.size := (Array.getElem?_eq_some_iff.1 hk7).1
            have hzq : w.heap.size + 1 < wr.heap.size := (Array.getElem?_eq_some_iff.1 hk4).1
            clear hX hY hk2 hk4 hk6 hk7
            rcases Nat.lt_or_ge j sl.length with hjl | hjg
            · obtain ⟨sb, so, rfl, hsb, e0, e1, e2, e3, e4⟩ := SlT.sc hM hb (Nat.le_refl _) j hjl
              have jlt : (j : Int) < sl.length := by omega
              have HST2 := Lib.hid (left_step key sl j hjl)
              have HPP2 := Lib.hid (HPP.out (j + 1))
              obtain ⟨p1, p2, p3, p4, p5, p6⟩ := HSN.out sl[j] (List.getElem_mem hjl)
              have hLN := left_nn key (sl.take j) (fun x hx => HSN.out x (List.mem_of_mem_take hx))
              have HLN := Lib.hid hLN
              clear hLN
              have hbd : 0 ≤ X ∧ 0 ≤ Y ∧ (sl[j].key = key → X + (sl[j].up - sl[j].uu) ≤ 4611686018427387903 ∧ Y + (sl[j].down - sl[j].ud) ≤ 4611686018427387903) := by
                have a1 := HX'.out; have a2 := HY'.out; have a3 := HPN.out; have a4 := HLN.out; have a5 := HPP2.out; have a6 := HPT.out; have a7 := HST.out; have a8 := HPU.out; have a9 := HPD.out; have a10 := HST2.out; have a11 := HLU.out; have a12 := HLD.out
                refine ⟨by omega, by omega, fun hkk => ?_⟩
                rw [if_pos hkk, if_pos hkk] at a10
                omega
              obtain ⟨hX0, hY0, hXY⟩ := hbd
              have HXY := Lib.hid hXY
              clear hXY
              generalize sl[j] = t at *
              have HRI : Hid (∀ V, Calls Try.prog 56 #[aSc t] V fun e w' => e = .returned (.agg #[.int .i64 (t.up - t.uu), .int .i64 (t.down - t.ud)]) ∧ Below V.heap.size V w') := Lib.hid (fun V => rights_any t V (by omega) (by omega))
              obtain ⟨t1', t2', t3', t4', t5'⟩ := t
              simp only at e0 e1 e2 e3 e4 p1 p2 p3 p4 p5 p6
              have HKE := Lib.hid (key_eq t1' key)
              have hA : Below wr.heap.size wr (wr.alloc (.cells #[.string t1', .int .i64 t2', .int .i64 t3', .int .i64 t4', .int .i64 t5'] 51)) := (Below.refl _ _).alloc (Nat.le_refl _) _
              have ks := heap_alloc_new wr (.cells #[.string t1', .int .i64 t2', .int .i64 t3', .int .i64 t4', .int .i64 t5'] 51)
              have hzs : wr.heap.size < (wr.alloc (.cells #[.string t1', .int .i64 t2', .int .i64 t3', .int .i64 t4', .int .i64 t5'] 51)).heap.size := by simp
              go_wp2_with fail
              refine (HRI.out _).mono ?_
              rintro e U1 ⟨rfl, hU1⟩
              generalize wr.alloc (.cells #[.string t1', .int .i64 t2', .int .i64 t3', .int .i64 t4', .int .i64 t5'] 51) = U0 at *
              have hAU := hA.trans (hU1.mono hA.size)
              have hB2 : Below U1.heap.size U1 (U1.alloc (.cells #[.int .i64 (t2' - t4'), .int .i64 (t3' - t5')] 101)) := (Below.refl _ _).alloc (Nat.le_refl _) _
              have k12 := heap_alloc_new U1 (.cells #[.int .i64 (t2' - t4'), .int .i64 (t3' - t5')] 101)
              have hAL := hAU.trans (hB2.mono hAU.size)
              have A2 := Lib.hid (block_below R2.out hAL (by omega))
              have A4 := Lib.hid (block_below R4.out hAL hzq)
              have A6 := Lib.hid (block_below R6.out hAL (by omega))
              have a7 := block_below R7.out hAL hzr
              have ks2 := block_below (block_below ks hU1 hzs) hB2 (by have := hU1.size; omega)
              have HBA := Lib.hid (hb.trans (hAL.mono hb.size))
              have hs12 : wr.heap.size < U1.heap.size := by have := hU1.size; omega
              clear e0 e1 e2 e3 e4 hA hU1 hAU hB2 hAL ks R2 R4 R6 R7 HRI hb
              go_upto_region 13 with fail
              generalize U1.alloc (.cells #[.int .i64 (t2' - t4'), .int .i64 (t3' - t5')] 101) = U2 at *
              generalize hgs : wr.heap.size = gs at *
              generalize hg12 : U1.heap.size = g12 at *
              clear hgs hg12
              obtain ⟨x0, x1, x2, x3, _⟩ := two_cells k12
              obtain ⟨y0, y1, y2, y3, _⟩ := two_cells a7
              have s0 : U2.cell? ⟨gs, 0, none⟩ = some (.string t1') := by simp [World.cell?, ks2]
              have hgg : G + 1 ≠ g12 := by omega
              have hgg' : g12 ≠ G + 1 := by omega
              have hG0 : w.heap.size ≤ G + 1 := by have := HG.out; omega
              have B2 := Lib.hid a7
              clear ks2
              by_cases he : t1' = key
              · have de : (t1'.toList == key.toList) = true := by rw [HKE.out]; simpa using he
                obtain ⟨hX1, hY1⟩ := HXY.out he
                have HS2 : Hid (leftU key (sl.take (j + 1)) = leftU key (sl.take j) + (t2' - t4') ∧ leftD key (sl.take (j + 1)) = leftD key (sl.take j) + (t3' - t5')) := by have := HST2.out; simp only [he, if_true] at this; exact Lib.hid this
                have hne := fun V => Try.neTwo (t2' - t4') (t3' - t5') V
                clear he HXY
                by_cases hz : t2' - t4' = 0 ∧ t3' - t5' = 0
                · have hq : (decide (t2' - t4' = 0) && decide (t3' - t5' = 0)) = true := by simp [hz]
                  simp only [hq] at hne
                  have HZ := Lib.hid hz
                  clear hz hq
                  go_wp2
                  go_roundw
                  case rel => exact ⟨j + 1, X, Y, by omega, by go_num, by rw [HS2.out.1, HZ.out.1, Int.add_zero]; exact HX'.out, by rw [HS2.out.2, HZ.out.2, Int.add_zero]; exact HY'.out, HBA.out, A2.out, A4.out, A6.out, B2.out⟩
                  case measure => simp [intOf]; omega
                · have hq : (decide (t2' - t4' = 0) && decide (t3' - t5' = 0)) = false := by
                    rw [Bool.and_eq_false_iff, decide_eq_false_iff_not, decide_eq_false_iff_not]; omega
                  simp only [hq] at hne
                  clear hz hq
                  have C7 := Lib.hid (two_blk a7 (.int .i64 (X + (t2' - t4'))) (.int .i64 (Y + (t3' - t5'))))
                  have C2 := Lib.hid ((set_ne2 U2 (G + 1) w.heap.size (by omega) 0 1 (.int .i64 (X + (t2' - t4'))) (.int .i64 (Y + (t3' - t5')))).trans A2.out)
                  have C4 := Lib.hid ((set_ne2 U2 (G + 1) (w.heap.size + 1) (by omega) 0 1 (.int .i64 (X + (t2' - t4'))) (.int .i64 (Y + (t3' - t5')))).trans A4.out)
                  have C6 := Lib.hid ((set_ne2 U2 (G + 1) G (by omega) 0 1 (.int .i64 (X + (t2' - t4'))) (.int .i64 (Y + (t3' - t5')))).trans A6.out)
                  have CB := Lib.hid ((HBA.out.setCell (p := ⟨G + 1, 0, none⟩) hG0 (.int .i64 (X + (t2' - t4')))).setCell (p := ⟨G + 1, 1, none⟩) hG0 (.int .i64 (Y + (t3' - t5'))))
                  clear a7
                  go_wp2
                  go_roundw
                  case rel => exact ⟨j + 1, _, _, by omega, by go_num, by rw [HS2.out.1, HX'.out]; omega, by rw [HS2.out.2, HY'.out]; omega, CB.out, C2.out, C4.out, C6.out, C7.out⟩
                  case measure => simp [intOf]; omega
              · have de : (t1'.toList == key.toList) = false := by rw [HKE.out]; simpa using he
                have HS2 : Hid (leftU key (sl.take (j + 1)) = leftU key (sl.take j) ∧ leftD key (sl.take (j + 1)) = leftD key (sl.take j)) := by have := HST2.out; simp only [if_neg he, Int.add_zero] at this; exact Lib.hid this
                clear he HXY a7
                go_wp2
                go_roundw
                case rel => exact ⟨j + 1, X, Y, by omega, by go_num, by rw [HS2.out.1]; exact HX'.out, by rw [HS2.out.2]; exact HY'.out, HBA.out, A2.out, A4.out, A6.out, B2.out⟩
                case measure => simp [intOf]; omega
            · have hje : j = sl.length := by omega
              subst hje
              have HX2 : Hid (X = leasedU key (b.ls.take (i + 1))) := by show _ = _; rw [HST.out.1, HX'.out, List.take_length, HPU.out]
              have HY2 : Hid (Y = leasedD key (b.ls.take (i + 1))) := by show _ = _; rw [HST.out.2, HY'.out, List.take_length, HPD.out]
              go_wp2
              go_roundw
              case rel => exact ⟨i + 1, X, Y, by omega, by go_num, HX2.out, HY2.out, hb, R2.out, R4.out, R6.out, R7.out⟩
              case measure => simp [intOf]; omega
        · have hie : i = xs.length := by omega
          subst hie
          have HU : Hid (PU = LU ∧ PD = LD) := Lib.hid ⟨by rw [HPU.out]; exact HTAKE.out.1, by rw [HPD.out]; exact HTAKE.out.2⟩
          obtain ⟨e1, e2⟩ := HU.out
          subst e1 e2
          go_wp2
          go_meet
          exact ⟨hb, R4.out, R6.out, R7.out⟩
    case rest =>
    obtain ⟨hb, hk4, hk6, hk7⟩ := hcut
    obtain ⟨W5, hW5⟩ : ∃ W5, W5 = wc := ⟨_, rfl⟩
    subst hW5
    obtain ⟨c0, c1, c2, c3, c4, c5, c6, hx9⟩ := seven_cells hk6
    obtain ⟨x0, x1, _, _, _⟩ := two_cells hk7
    obtain ⟨⟨r0, r1, r2, r3, r4, r5⟩, rf⟩ := six_cells hk4
    have f0 := rf 0
    have f1 := rf 1
    have f2 := rf 2
    have f3 := rf 3
    have f4 := rf 4
    have f5 := rf 5
    have HBF := Lib.hid hb
    clear rf hx9 hk4 hk6 hk7 hb K2' K4' K6 K7 HB3 d0 d1 d2 d3
    go_wp2
    refine bodyPost_ret (v := .agg #[.int .i64 q6, .int .i64 LU, .int .i64 (q4 - q5 - q6 - LU), .int .i64 q7, .int .i64 LD, .int .i64 (q5 - q3 - q7 - LD)]) (by simp [results, Try.results23, go_sem, *]) rfl (show RetTot _ _ _ _ from ?_)
    rw [HF.out]
    exact ⟨rfl, (((((HBF.out.setCell (by simp) _).setCell (by simp) _).setCell (by simp) _).setCell (by simp) _).setCell (by simp) _).setCell (by simp) _⟩

end Go.Proofs.Ytckonmlcgfbojaa
