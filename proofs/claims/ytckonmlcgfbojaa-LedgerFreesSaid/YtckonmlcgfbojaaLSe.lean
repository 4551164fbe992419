/- The walk of left. -/
import Derived.Test.YtckonmlcgfbojaaLSc
import Derived.IntWalk
namespace Go.Proofs.Ytckonmlcgfbojaa
open Go.RowKit

/-- What is left of a counter's rights in slices: up, down. -/
def leftU (key : ByteArray) : List Sc → Int
  | [] => 0
  | s :: t => (if s.key = key then s.up - s.uu else 0) + leftU key t
def leftD (key : ByteArray) : List Sc → Int
  | [] => 0
  | s :: t => (if s.key = key then s.down - s.ud else 0) + leftD key t
def leasedU (key : ByteArray) : List Ls → Int
  | [] => 0
  | l :: t => leftU key l.sl + leasedU key t
def leasedD (key : ByteArray) : List Ls → Int
  | [] => 0
  | l :: t => leftD key l.sl + leasedD key t
def ScN (l : List Sc) : Prop := ∀ s ∈ l, 0 ≤ s.uu ∧ s.uu ≤ s.up ∧ s.up ≤ 9223372036854775807 ∧ 0 ≤ s.ud ∧ s.ud ≤ s.down ∧ s.down ≤ 9223372036854775807
theorem leftU_append (key : ByteArray) (a b : List Sc) : leftU key (a ++ b) = leftU key a + leftU key b := by
  induction a with
  | nil => simp [leftU]
  | cons s t ih => simp only [List.cons_append, leftU, ih]; omega
theorem leftD_append (key : ByteArray) (a b : List Sc) : leftD key (a ++ b) = leftD key a + leftD key b := by
  induction a with
  | nil => simp [leftD]
  | cons s t ih => simp only [List.cons_append, leftD, ih]; omega
theorem leasedU_append (key : ByteArray) (a b : List Ls) : leasedU key (a ++ b) = leasedU key a + leasedU key b := by
  induction a with
  | nil => simp [leasedU]
  | cons s t ih => simp only [List.cons_append, leasedU, ih]; omega
theorem leasedD_append (key : ByteArray) (a b : List Ls) : leasedD key (a ++ b) = leasedD key a + leasedD key b := by
  induction a with
  | nil => simp [leasedD]
  | cons s t ih => simp only [List.cons_append, leasedD, ih]; omega
theorem left_nn (key : ByteArray) (l : List Sc) (h : ScN l) : 0 ≤ leftU key l ∧ 0 ≤ leftD key l := by
  induction l with
  | nil => exact ⟨Int.le_refl _, Int.le_refl _⟩
  | cons s t ih =>
    have h1 := h s (by simp)
    have h2 := ih (fun x hx => h x (by simp [hx]))
    simp only [leftU, leftD]
    split <;> omega
theorem leased_nn (key : ByteArray) (l : List Ls) (h : ∀ x ∈ l, ScN x.sl) : 0 ≤ leasedU key l ∧ 0 ≤ leasedD key l := by
  induction l with
  | nil => exact ⟨Int.le_refl _, Int.le_refl _⟩
  | cons s t ih =>
    have h1 := left_nn key s.sl (h s (by simp))
    have h2 := ih (fun x hx => h x (by simp [hx]))
    simp only [leasedU, leasedD]
    omega
theorem left_part (key : ByteArray) (l : List Sc) (h : ScN l) (k : Nat) : leftU key (l.take k) ≤ leftU key l ∧ leftD key (l.take k) ≤ leftD key l := by
  have h1 := leftU_append key (l.take k) (l.drop k)
  have h2 := leftD_append key (l.take k) (l.drop k)
  rw [List.take_append_drop] at h1 h2
  have h3 := left_nn key (l.drop k) (fun x hx => h x (List.mem_of_mem_drop hx))
  omega
theorem leased_part (key : ByteArray) (l : List Ls) (h : ∀ x ∈ l, ScN x.sl) (k : Nat) : leasedU key (l.take k) ≤ leasedU key l ∧ leasedD key (l.take k) ≤ leasedD key l := by
  have h1 := leasedU_append key (l.take k) (l.drop k)
  have h2 := leasedD_append key (l.take k) (l.drop k)
  rw [List.take_append_drop] at h1 h2
  have h3 := leased_nn key (l.drop k) (fun x hx => h x (List.mem_of_mem_drop hx))
  omega
theorem leased_step (key : ByteArray) (l : List Ls) (k : Nat) (hk : k < l.length) : leasedU key (l.take (k + 1)) = leasedU key (l.take k) + leftU key l[k].sl ∧ leasedD key (l.take (k + 1)) = leasedD key (l.take k) + leftD key l[k].sl := by
  rw [take_snoc l k hk, leasedU_append, leasedD_append]; simp [leasedU, leasedD]
theorem left_step (key : ByteArray) (l : List Sc) (k : Nat) (hk : k < l.length) : leftU key (l.take (k + 1)) = leftU key (l.take k) + (if l[k].key = key then l[k].up - l[k].uu else 0) ∧ leftD key (l.take (k + 1)) = leftD key (l.take k) + (if l[k].key = key then l[k].down - l[k].ud else 0) := by
  rw [take_snoc l k hk, leftU_append, leftD_append]; simp [leftU, leftD]

def leftOk (ls : List Ls) (c : Ct) : Bool := decide (leasedU c.key ls ≤ c.hi - c.start - c.up) && decide (leasedD c.key ls ≤ c.start - c.lo - c.down)
/-- No counter has more leased than there is. -/
def leftS (cs : List Ct) (ls : List Ls) : Bool := decide (AllIx (fun _ c => leftOk ls c) cs)

def CtN (c : Ct) : Prop := -1099511627776 ≤ c.lo ∧ c.lo ≤ c.start ∧ c.start ≤ c.hi ∧ c.hi ≤ 1099511627776 ∧ 0 ≤ c.up ∧ c.up ≤ c.hi - c.start ∧ 0 ≤ c.down ∧ c.down ≤ c.start - c.lo

set_option maxRecDepth 100000 in
set_option maxHeartbeats 4000000 in
theorem left_any (b : BkC) (cs : List Ct) (ls : List Ls) (w : World) (hc : SlCt w b.c.v cs) (hl : SlL w b.l.v ls) (hcs : ∀ c ∈ cs, CtN c) (hls : ∀ x ∈ ls, ScN x.sl) :
    Calls Try.prog 64 #[aBk b] w fun e w' => e = .returned (.bool (leftS cs ls)) ∧ Below w.heap.size w w' := by
  obtain ⟨⟨b1, b2, b3⟩, ⟨b4, b5, b6⟩, ⟨b7, b8, b9⟩, ⟨b10, b11, b12⟩⟩ := b
  obtain ⟨xs, hx, hxs⟩ := hl
  simp only [Sv.v] at hc hx
  obtain ⟨hxn, hcap, hmax⟩ := Sl.lens (s := ⟨b1, b2, b3⟩) hc
  obtain ⟨hln, hlcap, hlmax⟩ := Sl.lens (s := ⟨b7, b8, b9⟩) hx
  simp only at hxn hcap hmax hln hlcap hlmax
  subst hxn hln
  have HCS := Lib.hid hcs
  have HLS := Lib.hid hls
  have HLEN := Lib.hid hxs.len
  have HXS := Lib.hid hxs
  clear hcs hls hxs
  have HK0 := Lib.hid (heap_alloc_new w (.cells #[.slice b1 cs.length b3, .slice b4 b5 b6, .slice b7 xs.length b9, .slice b10 b11 b12] 32))
  change Calls Try.prog _ #[.agg #[.slice b1 cs.length b3, .slice b4 b5 b6, .slice b7 xs.length b9, .slice b10 b11 b12]] w _
  go_enter Try.func64, Try.ntmps64
  go_wp2
  go_loopw [14] (fun vk wr => ∃ k : Nat, k ≤ cs.length ∧ vk = .int .i64 k ∧ AllTo (fun _ c => leftOk ls c) cs k ∧ Below w.heap.size w wr ∧ wr.heap[w.heap.size]? = some (.cells #[.slice b1 cs.length b3, .slice b4 b5 b6, .slice b7 xs.length b9, .slice b10 b11 b12] 32 (0, 0))) (fun vk _ => cs.length - (intOf vk).toNat)
  case atStart => exact ⟨0, Nat.zero_le _, rfl, allTo_zero _ _, (Below.refl _ _).alloc (Nat.le_refl _) _, HK0.out⟩
  case round =>
    obtain ⟨k, hk, rfl, hA, hb, hk1⟩ := hrel
    have HA := Lib.hid hA
    clear HK0
    obtain ⟨d0, d1, d2, d3, _⟩ := four_cells hk1
    have hzr : w.heap.size < wr.heap.size := (Array.getElem?_eq_some_iff.1 hk1).1
    have HK1 := Lib.hid hk1
    clear hA hk1
    rcases Nat.lt_or_ge k cs.length with hlt | hge
    · obtain ⟨bb, off, rfl, hbl, e0, e1, e2, e3, e4, e5, e6⟩ := SlT.ct hc hb (Nat.le_refl _) k hlt
      have klt : (k : Int) < cs.length := by omega
      have HNO : Hid (leftOk ls cs[k] = false → decide (AllIx (fun _ c => leftOk ls c) cs) = false) := Lib.hid (allIx_no (f := fun _ c => leftOk ls c) hlt)
      have HYES : Hid (leftOk ls cs[k] = true → AllTo (fun _ c => leftOk ls c) cs (k + 1)) := Lib.hid (AllTo.step HA.out hlt)
      have HOK : Hid (leftOk ls cs[k] = (decide (leasedU cs[k].key ls ≤ cs[k].hi - cs[k].start - cs[k].up) && decide (leasedD cs[k].key ls ≤ cs[k].start - cs[k].lo - cs[k].down))) := rfl
      obtain ⟨g1, g2, g3, g4, g5, g6, g7, g8⟩ := HCS.out cs[k] (List.getElem_mem hlt)
      generalize leftOk ls cs[k] = ok at *
      generalize cs[k] = c at *
      obtain ⟨r1, r2, r3, r4, r5, r6, r7⟩ := c
      simp only at e0 e1 e2 e3 e4 e5 e6 g1 g2 g3 g4 g5 g6 g7 g8
      have hbA : Below w.heap.size w (wr.alloc (.cells #[.string r1, .int .i64 r2, .int .i64 r3, .int .i64 r4, .int .i64 r5, .int .i64 r6, .int .i64 r7] 25)) := hb.alloc (by omega) _
      have HBA := Lib.hid hbA
      have HA1 := Lib.hid ((Below.heap_alloc wr (.cells #[.string r1, .int .i64 r2, .int .i64 r3, .int .i64 r4, .int .i64 r5, .int .i64 r6, .int .i64 r7] 25) w.heap.size hzr).trans HK1.out)
      have HNEW := Lib.hid (heap_alloc_new wr (.cells #[.string r1, .int .i64 r2, .int .i64 r3, .int .i64 r4, .int .i64 r5, .int .i64 r6, .int .i64 r7] 25))
      have hzA : wr.heap.size < (wr.alloc (.cells #[.string r1, .int .i64 r2, .int .i64 r3, .int .i64 r4, .int .i64 r5, .int .i64 r6, .int .i64 r7] 25)).heap.size := by simp
      clear hbA HK1
      have i1 : IntKind.i64.wrap (r4 - r5) = r4 - r5 := IntWalk.i64_in _ (by omega)
      have i2 : IntKind.i64.wrap (r4 - r5 - r6) = r4 - r5 - r6 := IntWalk.i64_in _ (by omega)
      have i3 : IntKind.i64.wrap (r5 - r3) = r5 - r3 := IntWalk.i64_in _ (by omega)
      have i4 : IntKind.i64.wrap (r5 - r3 - r7) = r5 - r3 - r7 := IntWalk.i64_in _ (by omega)
      go_wp2
      generalize wr.alloc (.cells #[.string r1, .int .i64 r2, .int .i64 r3, .int .i64 r4, .int .i64 r5, .int .i64 r6, .int .i64 r7] 25) = w7 at *
      clear e0 e1 e2 e3 e4 e5 e6 d0 d1 d2 d3
      obtain ⟨n0, n1, n2, n3, n4, n5, n6, _⟩ := seven_cells HNEW.out
      go_quiet (fail)
      clear i1 i2 i3 i4
      obtain ⟨d0, d1, d2, d3, _⟩ := four_cells HA1.out
      go_wp2
      have HD7 := Lib.hid (below_drewN HBA.out nq)
      have hk7 : (w7.drewN nq).heap[wr.heap.size]? = some (.cells #[.string r1, .int .i64 r2, .int .i64 r3, .int .i64 r4, .int .i64 r5, .int .i64 r6, .int .i64 r7] 25 (0, 0)) := HNEW.out
      have hk8 : (w7.drewN nq).heap[w.heap.size]? = some (.cells #[.slice (some ⟨bb, off, none⟩) cs.length b3, .slice b4 b5 b6, .slice b7 xs.length b9, .slice b10 b11 b12] 32 (0, 0)) := HA1.out
      have HK7 := Lib.hid hk7
      have HK8 := Lib.hid hk8
      generalize w7.drewN nq = w8 at *
      generalize wr.heap.size = G at *
      clear hk7 hk8 n0 n1 n2 n3 n4 n5 n6 d0 d1 d2 d3 HNEW HA1 HBA hb
      have HPART := Lib.hid (leased_part r1 ls HLS.out)
      go_loopw [5, 6, 37] (fun v5 v6 v37 wr => ∃ (i : Nat) (X Y : Int), i ≤ xs.length ∧ v37 = .int .i64 i ∧ v5 = .int .i64 X ∧ v6 = .int .i64 Y ∧ X = r4 - r5 - r6 - leasedU r1 (ls.take i) ∧ Y = r5 - r3 - r7 - leasedD r1 (ls.take i) ∧ 0 ≤ X ∧ 0 ≤ Y ∧ Below w.heap.size w wr ∧
        wr.heap[w.heap.size]? = some (.cells #[.slice (some ⟨bb, off, none⟩) cs.length b3, .slice b4 b5 b6, .slice b7 xs.length b9, .slice b10 b11 b12] 32 (0, 0)) ∧ wr.heap[G]? = some (.cells #[.string r1, .int .i64 r2, .int .i64 r3, .int .i64 r4, .int .i64 r5, .int .i64 r6, .int .i64 r7] 25 (0, 0))) (fun _ _ v37 _ => xs.length - (intOf v37).toNat)
      case atStart => exact ⟨0, _, _, Nat.zero_le _, rfl, rfl, rfl, by simp [leasedU], by simp [leasedD], by omega, by omega, HD7.out, HK8.out, HK7.out⟩
      case round =>
        obtain ⟨i, X, Y, hi, rfl, rfl, rfl, hX, hY, hX0, hY0, hb, hk8, hk7⟩ := hrel
        have HX := Lib.hid hX
        have HY := Lib.hid hY
        clear hX hY HD7 HK7 HK8
        have HK7 := Lib.hid hk7
        have HK8 := Lib.hid hk8
        clear hk7 hk8
        have hzr : w.heap.size < wr.heap.size := (Array.getElem?_eq_some_iff.1 HK8.out).1
        have hzg : G < wr.heap.size := (Array.getElem?_eq_some_iff.1 HK7.out).1
        rcases Nat.lt_or_ge i xs.length with hil | hig
        · have hil2 : i < ls.length := by rw [← HLEN.out]; exact hil
          obtain ⟨lb, lo, rfl, hlb, e0, e1, e2, e3, e4, e5, e6⟩ := SlT.ls hx hb (Nat.le_refl _) i hil
          have ilt : (i : Int) < xs.length := by omega
          have hM := (All2.at HXS.out i hil hil2).s
          have hSN := HLS.out ls[i] (List.getElem_mem hil2)
          have HST := Lib.hid (leased_step r1 ls i hil2)
          have HPT := Lib.hid (HPART.out (i + 1))
          have HPP := Lib.hid (left_part r1 ls[i].sl hSN)
          have HSN := Lib.hid hSN
          have HPN := Lib.hid (leased_nn r1 (ls.take i) (fun x hx => HLS.out x (List.mem_of_mem_take hx)))
          generalize leasedU r1 (ls.take i) = PU at *
          generalize leasedD r1 (ls.take i) = PD at *
          generalize ls[i].sl = sl at *
          generalize xs[i] = z at *
          obtain ⟨z1, z2, z3, z4, ⟨z5, z6, z7⟩, ⟨z8, z9, z10⟩, ⟨z11, z12, z13⟩⟩ := z
          simp only [Sv.v] at e0 e1 e2 e3 e4 e5 e6 hM
          obtain ⟨hzn, hzcap, hzmax⟩ := Sl.lens (s := ⟨z5, z6, z7⟩) hM
          simp only at hzn hzcap hzmax
          subst hzn
          have hbA := hb.alloc (Nat.le_of_lt hzr) (.cells #[.int .i64 z1, .int .i64 z2, .int .i64 z3, .int .i64 z4, .slice z5 sl.length z7, .slice z8 z9 z10, .slice z11 z12 z13] 45)
          have HBA := Lib.hid hbA
          have HA1 := Lib.hid ((Below.heap_alloc wr (.cells #[.int .i64 z1, .int .i64 z2, .int .i64 z3, .int .i64 z4, .slice z5 sl.length z7, .slice z8 z9 z10, .slice z11 z12 z13] 45) w.heap.size hzr).trans HK8.out)
          have HA2 := Lib.hid ((Below.heap_alloc wr (.cells #[.int .i64 z1, .int .i64 z2, .int .i64 z3, .int .i64 z4, .slice z5 sl.length z7, .slice z8 z9 z10, .slice z11 z12 z13] 45) G hzg).trans HK7.out)
          go_wp2
          generalize wr.alloc (.cells #[.int .i64 z1, .int .i64 z2, .int .i64 z3, .int .i64 z4, .slice z5 sl.length z7, .slice z8 z9 z10, .slice z11 z12 z13] 45) = w9 at *
          clear hbA e0 e1 e2 e3 e4 e5 e6 HK7 HK8 hb
          go_loopw [5, 6, 44] (fun v5 v6 v44 wr => ∃ (j : Nat) (X Y : Int), j ≤ sl.length ∧ v44 = .int .i64 j ∧ v5 = .int .i64 X ∧ v6 = .int .i64 Y ∧ X = r4 - r5 - r6 - (PU + leftU r1 (sl.take j)) ∧ Y = r5 - r3 - r7 - (PD + leftD r1 (sl.take j)) ∧ 0 ≤ X ∧ 0 ≤ Y ∧ Below w.heap.size w wr ∧
            wr.heap[w.heap.size]? = some (.cells #[.slice (some ⟨bb, off, none⟩) cs.length b3, .slice b4 b5 b6, .slice (some ⟨lb, lo, none⟩) xs.length b9, .slice b10 b11 b12] 32 (0, 0)) ∧ wr.heap[G]? = some (.cells #[.string r1, .int .i64 r2, .int .i64 r3, .int .i64 r4, .int .i64 r5, .int .i64 r6, .int .i64 r7] 25 (0, 0))) (fun _ _ v44 _ => sl.length - (intOf v44).toNat)
          case atStart => exact ⟨0, X, Y, Nat.zero_le _, rfl, rfl, rfl, by rw [HX.out]; simp [leftU], by rw [HY.out]; simp [leftD], hX0, hY0, HBA.out, HA1.out, HA2.out⟩
          case round =>
            clear HX HY HBA HA1 HA2 hX0 hY0
            obtain ⟨j, X, Y, hj, rfl, rfl, rfl, hX, hY, hX0, hY0, hb, hk8, hk7⟩ := hrel
            have HX := Lib.hid hX
            have HY := Lib.hid hY
            have HK7 := Lib.hid hk7
            have HK8 := Lib.hid hk8
            clear hX hY hk7 hk8
            have hzr : w.heap.size < wr.heap.size := (Array.getElem?_eq_some_iff.1 HK8.out).1
            have hzg : G < wr.heap.size := (Array.getElem?_eq_some_iff.1 HK7.out).1
            rcases Nat.lt_or_ge j sl.length with hjl | hjg
            · obtain ⟨sb, so, rfl, hsb, e0, e1, e2, e3, e4⟩ := SlT.sc hM hb (Nat.le_refl _) j hjl
              have jlt : (j : Int) < sl.length := by omega
              have HST2 := Lib.hid (left_step r1 sl j hjl)
              have HPP2 := Lib.hid (HPP.out (j + 1))
              obtain ⟨q1, q2, q3, q4, q5, q6⟩ := HSN.out sl[j] (List.getElem_mem hjl)
              have hLN := left_nn r1 (sl.take j) (fun x hx => HSN.out x (List.mem_of_mem_take hx))
              have hXB : X ≤ 2199023255552 ∧ Y ≤ 2199023255552 := by have := HX.out; have := HY.out; have := HPN.out; omega
              obtain ⟨hXB, hYB⟩ := hXB
              have HLN := Lib.hid hLN
              clear hLN
              generalize leftU r1 (sl.take j) = LU at *
              generalize leftD r1 (sl.take j) = LD at *
              generalize sl[j] = t at *
              obtain ⟨t1, t2, t3, t4, t5⟩ := t
              simp only at e0 e1 e2 e3 e4 q1 q2 q3 q4 q5 q6
              have hbA := hb.alloc (Nat.le_of_lt hzr) (.cells #[.string t1, .int .i64 t2, .int .i64 t3, .int .i64 t4, .int .i64 t5] 51)
              have HBA := Lib.hid hbA
              have HA1 := Lib.hid ((Below.heap_alloc wr (.cells #[.string t1, .int .i64 t2, .int .i64 t3, .int .i64 t4, .int .i64 t5] 51) w.heap.size hzr).trans HK8.out)
              have HA2 := Lib.hid ((Below.heap_alloc wr (.cells #[.string t1, .int .i64 t2, .int .i64 t3, .int .i64 t4, .int .i64 t5] 51) G hzg).trans HK7.out)
              obtain ⟨n0, n1, n2, n3, n4, n5, n6, _⟩ := seven_cells HK7.out
              have HKE := Lib.hid (key_eq t1 r1)
              clear hbA
              by_cases he : t1 = r1
              · have de : (t1.toList == r1.toList) = true := by rw [HKE.out]; simpa using he
                have de2 : (t1.toList != r1.toList) = false := by simp [bne, de]
                have HE := Lib.hid he
                clear he
                have HS2 : Hid (leftU r1 (sl.take (j + 1)) = LU + (t2 - t4) ∧ leftD r1 (sl.take (j + 1)) = LD + (t3 - t5)) := by have := HST2.out; simp only [HE.out, if_true] at this; exact Lib.hid this
                go_wp2
                all_goals first
                  | (go_ret
                     exact ⟨ret_bool (HNO.out (by rw [HOK.out]; have h1 := HX.out; have h2 := HY.out; have h3 := HS2.out; have h4 := HPP2.out; have h5 := HPT.out; have h6 := HST.out; rw [Bool.and_eq_false_iff, decide_eq_false_iff_not, decide_eq_false_iff_not]; omega)).symm, HBA.out⟩)
                  | (go_roundw
                     case rel => exact ⟨j + 1, X - (t2 - t4), Y - (t3 - t5), by omega, by go_num, rfl, rfl, by rw [HS2.out.1, HX.out]; omega, by rw [HS2.out.2, HY.out]; omega, by omega, by omega, HBA.out, HA1.out, HA2.out⟩
                     case measure => simp [intOf]; omega)
              · have de : (t1.toList == r1.toList) = false := by rw [HKE.out]; simpa using he
                have de2 : (t1.toList != r1.toList) = true := by simp [bne, de]
                have HS2 : Hid (leftU r1 (sl.take (j + 1)) = LU ∧ leftD r1 (sl.take (j + 1)) = LD) := by have := HST2.out; simp only [if_neg he, Int.add_zero] at this; exact Lib.hid this
                clear he
                go_wp2
                go_roundw
                case rel => exact ⟨j + 1, X, Y, by omega, by go_num, rfl, rfl, by rw [HS2.out.1]; exact HX.out, by rw [HS2.out.2]; exact HY.out, hX0, hY0, HBA.out, HA1.out, HA2.out⟩
                case measure => simp [intOf]; omega
            · have hje : j = sl.length := by omega
              subst hje
              have HX2 : Hid (X = r4 - r5 - r6 - leasedU r1 (ls.take (i + 1))) := by show _ = _; rw [HST.out.1, HX.out, List.take_length]
              have HY2 : Hid (Y = r5 - r3 - r7 - leasedD r1 (ls.take (i + 1))) := by show _ = _; rw [HST.out.2, HY.out, List.take_length]
              go_wp2
              go_roundw
              case rel => exact ⟨i + 1, X, Y, by omega, by go_num, rfl, rfl, HX2.out, HY2.out, hX0, hY0, hb, HK8.out, HK7.out⟩
              case measure => simp [intOf]; omega
        · have HXA : Hid (X = r4 - r5 - r6 - leasedU r1 ls) := by show _ = _; rw [HX.out, List.take_of_length_le (by rw [← HLEN.out]; exact hig)]
          have HYA : Hid (Y = r5 - r3 - r7 - leasedD r1 ls) := by show _ = _; rw [HY.out, List.take_of_length_le (by rw [← HLEN.out]; exact hig)]
          go_wp2
          go_roundw
          case rel => exact ⟨k + 1, by omega, by go_num, HYES.out (by rw [HOK.out]; have := HXA.out; have := HYA.out; simp; omega), hb, HK8.out⟩
          case measure => simp [intOf]; omega
    · go_wp2
      go_ret
      exact ⟨ret_bool (AllTo.all HA.out hge).symm, hb⟩

end Go.Proofs.Ytckonmlcgfbojaa
