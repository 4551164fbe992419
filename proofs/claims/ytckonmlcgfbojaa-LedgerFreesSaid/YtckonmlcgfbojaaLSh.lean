/- The walk of Sound. -/
import Derived.Test.YtckonmlcgfbojaaLSg
namespace Go.Proofs.Ytckonmlcgfbojaa
open Go.RowKit

def prevDev (ls : List Ls) : Nat → Int
  | 0 => -1
  | i + 1 => ((ls[i]?).map Ls.dev).getD 0
def lsOk (cs : List Ct) (ls : List Ls) (i : Nat) (l : Ls) : Bool := decide (prevDev ls i < l.dev) && (decide (l.dev < 6) && (scS cs l.sl && (decide (RowP l.ids) && (decide (Rises l.used) && amS l.used l.ids))))
def rowsOf (b : Bk) : List (List Rg) := b.free :: b.ls.map Ls.ids
/-- A book that may be. -/
def sndS (b : Bk) : Bool := decide (AllIx (lsOk b.cs b.ls) b.ls) && (ctS b.cs && (leftS b.cs b.ls && (decide (RowP b.free) && (decide (Rises b.bound) && (apGo [] (rowsOf b) && !b.bound.any (inRows (rowsOf b)))))))

structure SndL (w : World) (x : BkC) (b : Bk) (k : Nat) (v : Value) (ss : List Sv) (wr : World) : Prop where
  all : AllTo (lsOk b.cs b.ls) b.ls k
  bel : Below w.heap.size w wr
  kb : wr.heap[w.heap.size]? = some (.cells #[x.c.v, x.f.v, x.l.v, x.b.v] 32 (0, 0))
  kr : wr.heap[w.heap.size + 2]? = some (.cells #[v] 108 (0, 0))
  row : wr.ownsRow (w.heap.size + 1) 28 1 v ss.length (cellsT cSv ss)
  rd : All2 (fun s l => SlR w s.v l) ss (b.free :: (b.ls.take k).map Ls.ids)

/-- What Sound asks of a book. -/
structure SndB (b : Bk) : Prop where
  nl : b.ls.length < 1000000
  nr : (rowsOf b).flatten.length < 1000000
  key : ∀ c ∈ b.cs, c.key.size ≤ maxLen
  up : ∀ l ∈ b.ls, ∀ s ∈ l.sl, s.up ≤ 9223372036854775807 ∧ s.down ≤ 9223372036854775807

theorem one_cell {w : World} {b : Nat} {x : Value} {t : TypeId} (h : w.heap[b]? = some (.cells #[x] t (0, 0))) :
    w.cell? ⟨b, 0, none⟩ = some x ∧ w.frozen? ⟨b, 0, none⟩ = false ∧ b < w.heap.size := by
  refine ⟨?_, ?_, (Array.getElem?_eq_some_iff.1 h).1⟩ <;> simp [World.cell?, World.frozen?, h]

theorem set_one {w : World} {b : Nat} {x : Value} {t : TypeId} (h : w.heap[b]? = some (.cells #[x] t (0, 0))) (u : Value) : (w.setCell ⟨b, 0, none⟩ u).heap[b]? = some (.cells #[u] t (0, 0)) := by
  simp [World.setCell, Array.getElem?_modify, h]

theorem scS_scN {cs : List Ct} {l : List Sc} (h : scS cs l = true) (hu : ∀ s ∈ l, s.up ≤ 9223372036854775807 ∧ s.down ≤ 9223372036854775807) : ScN l := by
  intro s hs
  obtain ⟨i, hi, rfl⟩ := List.getElem_of_mem hs
  unfold scS at h
  rw [decide_eq_true_iff] at h
  have h1 := h i hi
  have h2 := hu _ (List.getElem_mem hi)
  unfold scOk at h1
  simp only [Bool.and_eq_true, decide_eq_true_iff] at h1
  exact ⟨h1.2.2.1, h1.2.2.2.1, h2.1, h1.2.2.2.2.1, h1.2.2.2.2.2, h2.2⟩
theorem ctS_ctN {cs : List Ct} (h : ctS cs = true) : ∀ c ∈ cs, CtN c := by
  intro c hc
  obtain ⟨i, hi, rfl⟩ := List.getElem_of_mem hc
  unfold ctS at h
  rw [Bool.and_eq_true, decide_eq_true_iff] at h
  have h1 := h.1 i hi
  unfold ctOk at h1
  rw [Bool.and_eq_true] at h1
  have h2 := mayS_bd h1.1
  simp only [Bool.and_eq_true, decide_eq_true_iff] at h1
  exact ⟨h2.1, h2.2.1, h2.2.2.1, h2.2.2.2, h1.2.2.1, h1.2.2.2.2.1, h1.2.2.2.1, h1.2.2.2.2.2⟩
theorem allIx_mem {α : Type} {f : Nat → α → Bool} {l : List α} (h : AllIx f l) : ∀ x ∈ l, ∃ i, f i x = true := fun x hx => by
  obtain ⟨i, hi, rfl⟩ := List.getElem_of_mem hx
  exact ⟨i, h i hi⟩

set_option maxRecDepth 100000 in
set_option maxHeartbeats 8000000 in
theorem sound_any (x : BkC) (b : Bk) (w : World) (h : BkM w x b) (hB : SndB b) :
    Calls Try.prog 26 #[aBk x] w fun e w' => e = .returned (.bool (sndS b)) ∧ Below w.heap.size w w' := by
  obtain ⟨⟨ca, cn, cc⟩, ⟨fa, f_n, fc⟩, ⟨la, ln, lc⟩, ⟨ba, b_n, bc⟩⟩ := x
  have HM := Lib.hid h
  have HSB := Lib.hid hB
  obtain ⟨a1, a2, a3, a4⟩ := b
  obtain ⟨hc, hf, ⟨xs, hx, hxa⟩, hu⟩ := h
  have nl := hB.nl
  simp only [Sv.v] at hc hf hx hu hxa nl
  obtain ⟨q1, _, _⟩ := Sl.lens (s := ⟨ca, cn, cc⟩) hc
  obtain ⟨q2, g1, g2⟩ := Sl.lens (s := ⟨fa, f_n, fc⟩) hf
  obtain ⟨q3, g3, g4⟩ := Sl.lens (s := ⟨la, ln, lc⟩) hx
  obtain ⟨q4, g5, g6⟩ := Sl.lens (s := ⟨ba, b_n, bc⟩) hu
  simp only at q1 q2 q3 q4 g1 g2 g3 g4 g5 g6
  subst q1 q2 q3 q4
  have HLEN := Lib.hid hxa.len
  have HXA := Lib.hid hxa
  have hxl : xs.length < 1000000 := by have := HLEN.out; omega
  clear hxa hB
  have hst : SndL w ⟨⟨ca, a1.length, cc⟩, ⟨fa, a2.length, fc⟩, ⟨la, xs.length, lc⟩, ⟨ba, a4.length, bc⟩⟩ ⟨a1, a2, a3, a4⟩ 0 (.slice (some ⟨w.heap.size + 1, 0, none⟩) 1 1) [⟨fa, a2.length, fc⟩]
      (((w.alloc (.cells #[.slice ca a1.length cc, .slice fa a2.length fc, .slice la xs.length lc, .slice ba a4.length bc] 32)).alloc (.cells #[.slice fa a2.length fc] 28)).alloc (.cells #[.slice (some ⟨w.heap.size + 1, 0, none⟩) 1 1] 108)) := by
    refine ⟨allTo_zero _ _, (((Below.refl _ _).alloc (Nat.le_refl _) _).alloc (by simp) _).alloc (by simp; omega) _, ?_, ?_, ?_, ⟨hf, trivial⟩⟩
    · rw [Below.heap_alloc _ _ _ (by simp; omega)]; exact alloc_first _ _ _
    · have := heap_alloc_new ((w.alloc (.cells #[.slice ca a1.length cc, .slice fa a2.length fc, .slice la xs.length lc, .slice ba a4.length bc] 32)).alloc (.cells #[.slice fa a2.length fc] 28)) (.cells #[.slice (some ⟨w.heap.size + 1, 0, none⟩) 1 1] 108)
      simpa using this
    · have h1 := owns_lit (w.alloc (.cells #[.slice ca a1.length cc, .slice fa a2.length fc, .slice la xs.length lc, .slice ba a4.length bc] 32)) (w.heap.size + 1) (w.heap.size + 1) 28 1 #[.slice fa a2.length fc] 1 (by simp) (Nat.le_refl _) (by omega) rfl
      exact h1.alloc _
  change Calls Try.prog _ #[.agg #[.slice ca a1.length cc, .slice fa a2.length fc, .slice la xs.length lc, .slice ba a4.length bc]] w _
  have HST := Lib.hid hst
  clear hst
  go_enter Try.func26, Try.ntmps26
  go_wp2
  go_loopw [5, 14] (fun v5 v14 wr => ∃ (k : Nat) (v : Value) (ss : List Sv), k ≤ xs.length ∧ v14 = .int .i64 k ∧ v5 = .int .i64 (prevDev a3 k) ∧ ss.length = k + 1 ∧ SndL w ⟨⟨ca, a1.length, cc⟩, ⟨fa, a2.length, fc⟩, ⟨la, xs.length, lc⟩, ⟨ba, a4.length, bc⟩⟩ ⟨a1, a2, a3, a4⟩ k v ss wr) (fun _ v14 _ => xs.length - (intOf v14).toNat)
  case atStart => exact ⟨0, _, [⟨fa, a2.length, fc⟩], Nat.zero_le _, rfl, rfl, rfl, HST.out⟩
  case round =>
    obtain ⟨k, v, ss, hk, rfl, rfl, hss, hS⟩ := hrel
    clear HST
    have HS := Lib.hid hS
    have HSSL := Lib.hid hss
    have hssb : ss.length ≤ k + 1 := by omega
    have hzr : w.heap.size + 2 < wr.heap.size := (Array.getElem?_eq_some_iff.1 hS.kr).1
    obtain ⟨d0, d1, d2, d3, _⟩ := four_cells hS.kb
    obtain ⟨r0, r0f, _⟩ := one_cell hS.kr
    obtain ⟨rao, rcap, rfl, hrc1, hrc2⟩ := owns_shape hS.row
    simp only [Sv.v] at d0 d1 d2 d3
    have hb := hS.bel
    clear hS hss
    rcases Nat.lt_or_ge k xs.length with hlt | hge
    · have hlt2 : k < a3.length := by rw [← HLEN.out]; exact hlt
      obtain ⟨lb, lo, rfl, hlb, e0, e1, e2, e3, e4, e5, e6⟩ := SlT.ls hx hb (Nat.le_refl _) k hlt
      have klt : (k : Int) < xs.length := by omega
      have hM := All2.at HXA.out k hlt hlt2
      have HNO : Hid (lsOk a1 a3 k a3[k] = false → sndS ⟨a1, a2, a3, a4⟩ = false) := Lib.hid (fun hh => by unfold sndS; rw [allIx_no (f := lsOk a1 a3) hlt2 hh]; rfl)
      have HYES : Hid (lsOk a1 a3 k a3[k] = true → AllTo (lsOk a1 a3) a3 (k + 1)) := Lib.hid (AllTo.step HS.out.all hlt2)
      have HOK : Hid (lsOk a1 a3 k a3[k] = (decide (prevDev a3 k < a3[k].dev) && (decide (a3[k].dev < 6) && (scS a1 a3[k].sl && (decide (RowP a3[k].ids) && (decide (Rises a3[k].used) && amS a3[k].used a3[k].ids)))))) := rfl
      have HPD : Hid (prevDev a3 (k + 1) = a3[k].dev) := by show _ = _; simp [prevDev, List.getElem?_eq_getElem hlt2]
      have HTK : Hid ((a3.take (k + 1)).map Ls.ids = (a3.take k).map Ls.ids ++ [a3[k].ids]) := by show _ = _; rw [take_snoc a3 k hlt2, List.map_append]; rfl
      have hMs := hM.s
      have hMi := hM.i
      have hMu := hM.u
      have hMd := hM.dev
      have HMI := Lib.hid hM.i
      clear hM
      generalize prevDev a3 k = pd at *
      generalize lsOk a1 a3 k a3[k] = ok at *
      generalize xs[k] = z at *
      generalize a3[k] = l at *
      obtain ⟨z1, z2, z3, z4, ⟨z5, z6, z7⟩, ⟨z8, z9, z10⟩, ⟨z11, z12, z13⟩⟩ := z
      obtain ⟨y1, y2, y3, y4, sl, ids, used⟩ := l
      simp only [Sv.v] at e0 e1 e2 e3 e4 e5 e6 hMs hMi hMu hMd
      subst hMd
      obtain ⟨p1, p11, p12⟩ := Sl.lens (s := ⟨z5, z6, z7⟩) hMs
      obtain ⟨p2, p21, p22⟩ := Sl.lens (s := ⟨z8, z9, z10⟩) hMi
      obtain ⟨p3, p31, p32⟩ := Sl.lens (s := ⟨z11, z12, z13⟩) hMu
      simp only at p1 p11 p12 p2 p21 p22 p3 p31 p32
      subst p1 p2 p3
      have hbA := hb.alloc (by omega) (.cells #[.int .i64 z1, .int .i64 z2, .int .i64 z3, .int .i64 z4, .slice z5 sl.length z7, .slice z8 ids.length z10, .slice z11 used.length z13] 45)
      have hbR : Below wr.heap.size wr (wr.alloc (.cells #[.int .i64 z1, .int .i64 z2, .int .i64 z3, .int .i64 z4, .slice z5 sl.length z7, .slice z8 ids.length z10, .slice z11 used.length z13] 45)) := (Below.refl _ _).alloc (Nat.le_refl _) _
      have HB7 := Lib.hid hbA
      have HL7 := Lib.hid (heap_alloc_new wr (.cells #[.int .i64 z1, .int .i64 z2, .int .i64 z3, .int .i64 z4, .slice z5 sl.length z7, .slice z8 ids.length z10, .slice z11 used.length z13] 45))
      have HBK7 := Lib.hid (block_below HS.out.kb hbR (by omega))
      have HR7 := Lib.hid (block_below HS.out.kr hbR (by omega))
      have HSL7 := Lib.hid (SlT.keep hMs hbA (Nat.le_refl _))
      have HID7 := Lib.hid (SlR.keep hMi hbA (Nat.le_refl _))
      have HUS7 := Lib.hid (SlI.keep hMu hbA (Nat.le_refl _))
      have HCT7 := Lib.hid (SlT.keep hc hbA (Nat.le_refl _))
      have HRO7 := Lib.hid (owns_keep HS.out.row hbR (Nat.le_refl _))
      have hzG : wr.heap.size < (wr.alloc (.cells #[.int .i64 z1, .int .i64 z2, .int .i64 z3, .int .i64 z4, .slice z5 sl.length z7, .slice z8 ids.length z10, .slice z11 used.length z13] 45)).heap.size := by simp
      clear hbA hbR hMs hMi hMu
      generalize hq1 : scS a1 sl = q1 at *
      generalize hq2 : decide (RowP ids) = q2 at *
      generalize hq3 : decide (Rises used) = q3 at *
      generalize hq4 : amS used ids = q4 at *
      have HQ1 := Lib.hid hq1
      have HQ2 := Lib.hid hq2
      have HQ3 := Lib.hid hq3
      have HQ4 := Lib.hid hq4
      clear hq1 hq2 hq3 hq4
      go_upto_region 7 with fail
      generalize wr.alloc (.cells #[.int .i64 z1, .int .i64 z2, .int .i64 z3, .int .i64 z4, .slice z5 sl.length z7, .slice z8 ids.length z10, .slice z11 used.length z13] 45) = w7 at *
      clear e0 e1 e2 e3 e4 e5 e6 d0 d1 d2 d3 r0 r0f
      obtain ⟨n0, n1, n2, n3, n4, n5, n6, _⟩ := seven_cells HL7.out
      obtain ⟨d0, d1, d2, d3, _⟩ := four_cells HBK7.out
      obtain ⟨r0, r0f, _⟩ := one_cell HR7.out
      go_wp2_with (first
        | ((go_at_call 59; refine (slices_any ⟨z1, z2, z3, z4, ⟨z5, sl.length, z7⟩, ⟨z8, ids.length, z10⟩, ⟨z11, used.length, z13⟩⟩ sl ⟨⟨ca, a1.length, cc⟩, ⟨fa, a2.length, fc⟩, ⟨some ⟨lb, lo, none⟩, xs.length, lc⟩, ⟨ba, a4.length, bc⟩⟩ a1 _ HSL7.out HCT7.out).mono ?_); rw [HQ1.out]; rintro e w1 ⟨rfl, hb⟩; have hc1 := hb; obtain ⟨n0, n1, n2, n3, n4, n5, n6, _⟩ := seven_cells (block_below HL7.out hc1 hzG); obtain ⟨d0, d1, d2, d3, _⟩ := four_cells (block_below HBK7.out hc1 (by omega)); obtain ⟨r0, r0f, _⟩ := one_cell (block_below HR7.out hc1 (by omega)); clear hb)
        | ((go_at_call 60; refine (isRow_any _ ids _ (SlR.keep HID7.out hc1 (Nat.le_refl _))).mono ?_); rw [HQ2.out]; rintro e w2 ⟨rfl, hb⟩; have hc2 := hc1.trans (hb.mono hc1.size); obtain ⟨n0, n1, n2, n3, n4, n5, n6, _⟩ := seven_cells (block_below HL7.out hc2 hzG); obtain ⟨d0, d1, d2, d3, _⟩ := four_cells (block_below HBK7.out hc2 (by omega)); obtain ⟨r0, r0f, _⟩ := one_cell (block_below HR7.out hc2 (by omega)); clear hb)
        | ((go_at_call 61; refine (rises_any _ used _ (SlI.keep HUS7.out hc2 (Nat.le_refl _))).mono ?_); rw [HQ3.out]; rintro e w3 ⟨rfl, hb⟩; have hc3 := hc2.trans (hb.mono hc2.size); obtain ⟨n0, n1, n2, n3, n4, n5, n6, _⟩ := seven_cells (block_below HL7.out hc3 hzG); obtain ⟨d0, d1, d2, d3, _⟩ := four_cells (block_below HBK7.out hc3 (by omega)); obtain ⟨r0, r0f, _⟩ := one_cell (block_below HR7.out hc3 (by omega)); clear hb)
        | ((go_at_call 62; refine (among_any _ _ used ids _ (SlI.keep HUS7.out hc3 (Nat.le_refl _)) (SlR.keep HID7.out hc3 (Nat.le_refl _))).mono ?_); rw [HQ4.out]; rintro e w4 ⟨rfl, hb⟩; have hc4 := hc3.trans (hb.mono hc3.size); obtain ⟨n0, n1, n2, n3, n4, n5, n6, _⟩ := seven_cells (block_below HL7.out hc4 hzG); obtain ⟨d0, d1, d2, d3, _⟩ := four_cells (block_below HBK7.out hc4 (by omega)); obtain ⟨r0, r0f, _⟩ := one_cell (block_below HR7.out hc4 (by omega)); clear hb)
        | ((with_reducible refine at_slot 60 ?_); refine append_Sv rfl _ _ rfl (w.heap.size + 1) _ ss.length ss rfl ((owns_keep HRO7.out hc4 (Nat.le_refl _)).alloc _) _ 1 1 [⟨z8, ids.length, z10⟩] rfl rfl (rd_new _ _ rfl [.slice z8 ids.length z10] _) (by omega) (by simp; omega) ?_))
      all_goals first
        | (go_ret
           refine ⟨ret_bool (HNO.out (by rw [HOK.out]; first | (simp; omega) | (simp [*]; done) | (simp [*]; omega) | (cases q4 <;> first | (simp; done) | (exfalso; rename_i hq; simp at hq; omega)))).symm, ?_⟩
           first | exact HB7.out.trans (hc4.mono HB7.out.size) | exact HB7.out.trans (hc3.mono HB7.out.size) | exact HB7.out.trans (hc2.mono HB7.out.size) | exact HB7.out.trans (hc1.mono HB7.out.size) | exact HB7.out)
        | skip
      intro v6 w6 ho6 hg6 hat6
      have hz4 := hc4.size
      have hne := own_ty (owns_keep HRO7.out hc4 (Nat.le_refl _)) (block_below HR7.out hc4 (by omega)) (by decide)
      have kr6 := (hg6.block (w.heap.size + 2) (by simp; omega) (fun e => hne e.symm)).trans ((Below.heap_alloc _ _ _ (by omega)).trans (block_below HR7.out hc4 (by omega)))
      have kb6 := (grown_block hg6 (b := w.heap.size) (B := w.heap.size + 1) (by simp; omega) (by omega) (owns_ge HRO7.out)).trans ((Below.heap_alloc _ _ _ (by omega)).trans (block_below HBK7.out hc4 (by omega)))
      have hne6 := own_ty ho6 kr6 (by decide)
      have hbw : Below w.heap.size w w6 := ((HB7.out.trans (hc4.mono HB7.out.size)).alloc (by omega) _).grown hg6 (by simp; omega) (fun g hg => by have := owns_ge HRO7.out g hg; omega)
      have hd6 := (seven_cells (block_below HL7.out hc4 hzG)).1
      obtain ⟨ao6, cap6, rfl, _, _⟩ := owns_shape ho6
      obtain ⟨r0, r0f, _⟩ := one_cell kr6
      have HK6 := Lib.hid kr6
      have HKB6 := Lib.hid kb6
      have HO6 := Lib.hid ho6
      have HNE6 := Lib.hid hne6
      clear kr6 kb6 ho6 hg6 hat6 hne hne6 n0 n1 n2 n3 n4 n5 n6 d0 d1 d2 d3 hd6 hc1 hc2 hc3 hc4
      go_wp2
      go_roundw
      case rel =>
        refine ⟨k + 1, .slice ao6 (ss.length + 1) cap6, ss ++ [⟨z8, ids.length, z10⟩], by omega, by go_num, by rw [HPD.out], by simp [HSSL.out], ⟨HYES.out (by rw [HOK.out]; cases q4 <;> first | (simp [*]; done) | (simp [*]; omega) | (exfalso; rename_i hq; simp at hq; done)), hbw.setCell (by first | (simp; done) | (simp; omega)) _, ?_, ?_, ?_, ?_⟩⟩
        · rw [set_ne _ _ _ (by simp; omega)]; exact HKB6.out
        · exact set_one HK6.out _
        · rw [List.length_append]; exact owns_ne HO6.out (fun b hb => set_ne _ _ _ (fun e => hb e.symm) _) HNE6.out
        · show All2 _ _ (a2 :: (a3.take (k + 1)).map Ls.ids)
          rw [HTK.out]
          exact All2.append HS.out.rd ⟨HMI.out, trivial⟩
      case measure => simp [intOf]; omega
    · have hk2 : k = xs.length := by omega
      subst hk2
      have HALL := Lib.hid (AllTo.all HS.out.all (Nat.le_of_eq (HLEN.out.symm)))
      have HRS : Hid (SlRs wr (.slice rao ss.length rcap) (rowsOf ⟨a1, a2, a3, a4⟩)) := Lib.hid ⟨ss, sl_of_owns HS.out.row, by
        have := HS.out.rd
        simp only at this
        rw [List.take_of_length_le (Nat.le_of_eq HLEN.out.symm)] at this
        exact this.imp (fun _ _ r => SlR.keep r hb (Nat.le_refl _))⟩
      generalize hqa : ctS a1 = qa at *
      generalize hqb : leftS a1 a3 = qb at *
      generalize hqc : decide (RowP a2) = qc at *
      generalize hqd : decide (Rises a4) = qd at *
      generalize hqe : apGo [] (rowsOf ⟨a1, a2, a3, a4⟩) = qe at *
      generalize hqf : a4.any (inRows (rowsOf ⟨a1, a2, a3, a4⟩)) = qf at *
      have HQA := Lib.hid hqa
      have HQB := Lib.hid hqb
      have HQC := Lib.hid hqc
      have HQD := Lib.hid hqd
      have HQE := Lib.hid hqe
      have HQF := Lib.hid hqf
      have HSND : Hid (sndS ⟨a1, a2, a3, a4⟩ = (qa && (qb && (qc && (qd && (qe && !qf)))))) := by show _ = _; unfold sndS; simp only [HALL.out, HQA.out, HQB.out, HQC.out, HQD.out, HQE.out, HQF.out, Bool.true_and]
      clear hqa hqb hqc hqd hqe hqf
      have hcc := SlT.keep hc hb (Nat.le_refl _)
      have hll : SlL wr (.slice la xs.length lc) a3 := SlL.keep ⟨xs, hx, HXA.out⟩ hb (Nat.le_refl _)
      have hff := SlR.keep hf hb (Nat.le_refl _)
      have huu := SlI.keep hu hb (Nat.le_refl _)
      cases qa with
      | false =>
        go_wp2_with ((go_at_call 63; refine (counters_any ⟨⟨ca, a1.length, cc⟩, ⟨fa, a2.length, fc⟩, ⟨la, xs.length, lc⟩, ⟨ba, a4.length, bc⟩⟩ a1 _ hcc HSB.out.key).mono ?_); rw [HQA.out]; rintro e w1 ⟨rfl, hb1⟩)
        go_ret
        exact ⟨ret_bool (by rw [HSND.out]; rfl), hb.trans (hb1.mono hb.size)⟩
      | true =>
        have HSCN : Hid (∀ l ∈ a3, ScN l.sl) := Lib.hid (fun l hl => by
          have := HALL.out
          rw [decide_eq_true_iff] at this
          obtain ⟨i, hi⟩ := allIx_mem this l hl
          unfold lsOk at hi
          simp only [Bool.and_eq_true] at hi
          exact scS_scN hi.2.2.1 (HSB.out.up l hl))
        have HCTN := Lib.hid (ctS_ctN HQA.out)
        go_wp2_with (first
          | ((go_at_call 63; refine (counters_any ⟨⟨ca, a1.length, cc⟩, ⟨fa, a2.length, fc⟩, ⟨la, xs.length, lc⟩, ⟨ba, a4.length, bc⟩⟩ a1 _ hcc HSB.out.key).mono ?_); rw [HQA.out]; rintro e w1 ⟨rfl, hb1⟩; have hc1 := hb1; obtain ⟨d0, d1, d2, d3, _⟩ := four_cells (block_below HS.out.kb hc1 (by omega)); obtain ⟨r0, r0f, _⟩ := one_cell (block_below HS.out.kr hc1 (by omega)); clear hb1)
          | ((go_at_call 64; refine (left_any ⟨⟨ca, a1.length, cc⟩, ⟨fa, a2.length, fc⟩, ⟨la, xs.length, lc⟩, ⟨ba, a4.length, bc⟩⟩ a1 a3 _ (SlT.keep hcc hc1 (Nat.le_refl _)) (SlL.keep hll hc1 (Nat.le_refl _)) HCTN.out HSCN.out).mono ?_); rw [HQB.out]; rintro e w2 ⟨rfl, hb1⟩; have hc2 := hc1.trans (hb1.mono hc1.size); obtain ⟨d0, d1, d2, d3, _⟩ := four_cells (block_below HS.out.kb hc2 (by omega)); obtain ⟨r0, r0f, _⟩ := one_cell (block_below HS.out.kr hc2 (by omega)); clear hb1)
          | ((go_at_call 60; refine (isRow_any _ a2 _ (SlR.keep hff hc2 (Nat.le_refl _))).mono ?_); rw [HQC.out]; rintro e w3 ⟨rfl, hb1⟩; have hc3 := hc2.trans (hb1.mono hc2.size); obtain ⟨d0, d1, d2, d3, _⟩ := four_cells (block_below HS.out.kb hc3 (by omega)); obtain ⟨r0, r0f, _⟩ := one_cell (block_below HS.out.kr hc3 (by omega)); clear hb1)
          | ((go_at_call 61; refine (rises_any _ a4 _ (SlI.keep huu hc3 (Nat.le_refl _))).mono ?_); rw [HQD.out]; rintro e w4 ⟨rfl, hb1⟩; have hc4 := hc3.trans (hb1.mono hc3.size); obtain ⟨d0, d1, d2, d3, _⟩ := four_cells (block_below HS.out.kb hc4 (by omega)); obtain ⟨r0, r0f, _⟩ := one_cell (block_below HS.out.kr hc4 (by omega)); clear hb1)
          | ((go_at_call 65; refine (apart_any _ _ _ (SlRs.keep HRS.out hc4 (Nat.le_refl _)) HSB.out.nr).mono ?_); rw [HQE.out]; rintro e w5 ⟨rfl, hb1⟩; have hc5 := hc4.trans (hb1.mono hc4.size); obtain ⟨d0, d1, d2, d3, _⟩ := four_cells (block_below HS.out.kb hc5 (by omega)); obtain ⟨r0, r0f, _⟩ := one_cell (block_below HS.out.kr hc5 (by omega)); clear hb1)
          | ((go_at_call 66; refine (hasI_any _ a4 _ _ _ _ (SlI.keep huu hc5 (Nat.le_refl _)) (asksS1 r0 (SlRs.keep HRS.out hc5 (Nat.le_refl _)) a4)).mono ?_); rw [HQF.out]; rintro e w6 ⟨rfl, hb6⟩; have hc6 := hc5.trans (hb6.mono hc5.size)))
        all_goals
          go_ret
          refine ⟨ret_bool (by rw [HSND.out]; first | rfl | (simp; done) | (simp [*]; done) | (cases qe <;> first | (simp [*]; done) | (rename_i hq; simp at hq; done))), ?_⟩
          first | exact hb.trans (hc6.mono hb.size) | exact hb.trans (hc5.mono hb.size) | exact hb.trans (hc4.mono hb.size) | exact hb.trans (hc3.mono hb.size) | exact hb.trans (hc2.mono hb.size) | exact hb.trans (hc1.mono hb.size)

end Go.Proofs.Ytckonmlcgfbojaa
