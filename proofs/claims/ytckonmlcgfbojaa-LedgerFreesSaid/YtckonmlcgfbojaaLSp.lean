/- The walk of Spend. -/
import Derived.Test.YtckonmlcgfbojaaLBs
import Derived.Test.YtckonmlcgfbojaaLGd
import Derived.Test.YtckonmlcgfbojaaLIn2
namespace Go.Proofs.Ytckonmlcgfbojaa
open Go.RowKit

abbrev aOp (o : Opr) : Value := .agg #[.int .i64 o.dev, .int .i64 o.epoch, .int .i64 o.seq, .int .i64 o.coll, .int .i64 o.ver, .int .i64 o.kind, .string o.key, .string o.text, .int .i64 o.n, .int .i64 o.time, o.dots.v]
/-- What Spend asks of a lease and a number. -/
structure SpB (l : Ls) (n : Int) : Prop where
  s : l.sl.length < 1000000
  i : l.ids.length < 1000000
  u : l.used.length < 99999
  n : -1099511627776 ≤ n ∧ n ≤ 1099511627776
  sc : ∀ s ∈ l.sl, (0 ≤ s.up ∧ s.up ≤ 4398046511104) ∧ (0 ≤ s.down ∧ s.down ≤ 4398046511104) ∧ (0 ≤ s.uu ∧ s.uu ≤ 4398046511104) ∧ 0 ≤ s.ud ∧ s.ud ≤ 4398046511104
  sort : l.used.Pairwise (· ≤ ·)
/-- A lease, an error. -/
def RetSp (w : World) (r : Ls × Int) (e : Ending) (w' : World) : Prop := ∃ (y : LsC), e = .returned (.tuple #[aLs y, .int .i64 r.2]) ∧ LsM w' y r.1 ∧ Below w.heap.size w w'
/-- What lies there is the call's own. -/
def RetSpO (w : World) (r : Ls × Int) (e : Ending) (w' : World) : Prop := ∃ (y : LsC), e = .returned (.tuple #[aLs y, .int .i64 r.2]) ∧ LsO w' w.heap.size y r.1 ∧ Below w.heap.size w w'
theorem ret_spent {w U U2 : World} {l : Ls} {y : LsC} {p : Nat} {n : Int} (hw : Below w.heap.size w U) (hb : Below U.heap.size U U2) (hy : LsO U2 U.heap.size y l) (hp : w.heap.size ≤ p) (hpU : p < U.heap.size) :
    RetSpO w (l, n) (.returned (.tuple #[aLs y, .int .i64 n])) (((((((U2.setCell ⟨p, 0, none⟩ (.int .i64 y.dev)).setCell ⟨p, 1, none⟩ (.int .i64 y.epoch)).setCell ⟨p, 2, none⟩ (.int .i64 y.unt)).setCell ⟨p, 3, none⟩ (.int .i64 y.last)).setCell ⟨p, 4, none⟩ y.s.v).setCell ⟨p, 5, none⟩ y.i.v).setCell ⟨p, 6, none⟩ y.u.v) := by
  have g2 := (((((((hy.put ⟨p, 0, none⟩ hpU (.int .i64 y.dev)).put ⟨p, 1, none⟩ hpU (.int .i64 y.epoch)).put ⟨p, 2, none⟩ hpU (.int .i64 y.unt)).put ⟨p, 3, none⟩ hpU (.int .i64 y.last)).put ⟨p, 4, none⟩ hpU y.s.v).put ⟨p, 5, none⟩ hpU y.i.v).put ⟨p, 6, none⟩ hpU y.u.v)
  refine ⟨y, rfl, g2.base hw.size, ?_⟩
  have hbw := hw.trans (hb.mono hw.size)
  exact ((((((hbw.setCell hp _).setCell hp _).setCell hp _).setCell hp _).setCell hp _).setCell hp _).setCell hp _
theorem alloc3 (w : World) (a b c : Obj) : ∃ W, (((w.alloc a).alloc b).alloc c) = W ∧ W.heap[w.heap.size]? = some a ∧ W.heap[w.heap.size + 1]? = some b ∧ W.heap[w.heap.size + 2]? = some c ∧ Below w.heap.size w W ∧ W.heap.size = w.heap.size + 3 :=
  ⟨_, rfl, alloc3_0 w a b c, alloc3_1 w a b c, alloc3_2 w a b c, (((Below.refl _ _).alloc (Nat.le_refl _) _).alloc (by simp) _).alloc (by simp; omega) _, by simp⟩
theorem cellsSc_set (l : List Sc) (k : Nat) (hk : k < l.length) (u d : Int) :
    ((cellsT cSc l).set (k * 5 + 3) (.int .i64 u)).set (k * 5 + 4) (.int .i64 d) = cellsT cSc (l.set k ⟨l[k].key, l[k].up, l[k].down, u, d⟩) := by
  induction l generalizing k with
  | nil => simp at hk
  | cons x l ih =>
    cases k with
    | zero => simp [cellsT_cons, cSc]
    | succ k =>
      have e : ∀ j, (k + 1) * 5 + j = k * 5 + j + 5 := fun j => by omega
      rw [List.set_cons_succ, cellsT_cons, cellsT_cons, List.getElem_cons_succ, ← ih k (by simpa using hk)]
      simp only [e]
      simp [cSc]
theorem LsO.setS {w : World} {B g n cap : Nat} {y : LsC} {l : Ls} (h : LsO w B y l) (hy : y.s = ⟨some ⟨g, 0, none⟩, n, cap⟩) (k : Nat) (hk : k < l.sl.length) (u d : Int) :
    LsO ((w.drew.drew.setCell ⟨g, k * 5 + 3, none⟩ (.int .i64 u)).setCell ⟨g, k * 5 + 4, none⟩ (.int .i64 d)) B y ⟨l.dev, l.epoch, l.unt, l.last, l.sl.set k ⟨l.sl[k].key, l.sl[k].up, l.sl[k].down, u, d⟩, l.ids, l.used⟩ := by
  have hs : w.drew.drew.ownsRow B 51 5 y.s.v l.sl.length (cellsT cSc l.sl) := h.s
  have hi : w.drew.drew.ownsRow B 78 2 y.i.v l.ids.length (cellsR l.ids) := h.i
  have hu : w.drew.drew.ownsRow B 3 1 y.u.v l.used.length (cellsI l.used) := h.u
  generalize w.drew.drew = W at *
  have hoth : ∀ c, c ≠ g → ((W.setCell ⟨g, k * 5 + 3, none⟩ (.int .i64 u)).setCell ⟨g, k * 5 + 4, none⟩ (.int .i64 d)).heap[c]? = W.heap[c]? := fun c hc => set_ne2 _ _ _ hc _ _ _ _
  rw [hy] at hs
  simp only [Sv.v] at hs
  have hn : n = l.sl.length := by
    obtain ⟨_, _, he, _, _⟩ := owns_shape hs
    injection he with _ he _
  subst hn
  obtain ⟨cur, hg⟩ := owns_curA hs
  have hl : (cellsT cSc l.sl).length = l.sl.length * 5 := cellsT_len cSc_len _
  have hset := owns_set (owns_set hs (k * 5 + 3) (by omega) (.int .i64 u)) (k * 5 + 4) (by rw [List.length_set]; omega) (.int .i64 d)
  rw [cellsSc_set _ _ hk] at hset
  refine ⟨h.dev, h.epoch, h.unt, h.last, ?_, owns_other hi hoth hg (by decide), owns_other hu hoth hg (by decide)⟩
  rw [hy]
  show World.ownsRow _ _ _ _ _ (l.sl.set _ _).length _
  rw [List.length_set]
  exact hset
theorem LsO.ins {W8 W9 : World} {B p6 : Nat} {y : LsC} {l : Ls} {v' : Sv} {used' : List Int} (h : LsO W8 B y l) (hk : W8.heap[p6]? = some (.cells #[.int .i64 y.dev, .int .i64 y.epoch, .int .i64 y.unt, .int .i64 y.last, y.s.v, y.i.v, y.u.v] 45 (0, 0)))
    (ho : W9.ownsRow B 3 1 v'.v used'.length (cellsI used')) (hg : W8.grownBy W9 y.u.v.ownBlock) :
    LsO (W9.setCell ⟨p6, 6, none⟩ v'.v) B ⟨y.dev, y.epoch, y.unt, y.last, y.s, y.i, v'⟩ ⟨l.dev, l.epoch, l.unt, l.last, l.sl, l.ids, used'⟩ ∧
      (W9.setCell ⟨p6, 6, none⟩ v'.v).heap[p6]? = some (.cells #[.int .i64 y.dev, .int .i64 y.epoch, .int .i64 y.unt, .int .i64 y.last, y.s.v, y.i.v, v'.v] 45 (0, 0)) ∧
      W9.heap[p6]? = some (.cells #[.int .i64 y.dev, .int .i64 y.epoch, .int .i64 y.unt, .int .i64 y.last, y.s.v, y.i.v, y.u.v] 45 (0, 0)) := by
  have hne : ∀ {base e E v n zs}, W8.ownsRow base e E v n zs → e ≠ 3 → W9.ownsRow base e E v n zs := fun {base e E v n zs} hr he => by
    refine hr.kept hg ?_
    cases hv : v.ownBlock with
    | none => exact .inl rfl
    | some q =>
      refine .inr (fun hq => ?_)
      rcases hy : y.u.v.ownBlock with _ | q2
      · rw [hy] at hq; cases hq
      · rw [hy] at hq
        obtain ⟨cur, hc⟩ := owns_ty h.u hy
        injection hq with hq
        subst hq
        exact own_ty hr hc he hv
  have hp : W9.heap[p6]? = some (.cells #[.int .i64 y.dev, .int .i64 y.epoch, .int .i64 y.unt, .int .i64 y.last, y.s.v, y.i.v, y.u.v] 45 (0, 0)) := by
    rw [hg.block p6 (Array.getElem?_eq_some_iff.1 hk).1 (fun e => by
      obtain ⟨cur, hc⟩ := owns_ty h.u e.symm
      rw [hk] at hc
      injection hc with hc
      injection hc with _ hc _
      exact absurd hc (by decide))]
    exact hk
  have hoth : ∀ c, c ≠ p6 → (W9.setCell ⟨p6, 6, none⟩ v'.v).heap[c]? = W9.heap[c]? := fun c hc => set_ne _ _ _ (fun e => hc e.symm) _
  refine ⟨⟨h.dev, h.epoch, h.unt, h.last, owns_other (hne h.s (by decide)) hoth hp (by decide), owns_other (hne h.i (by decide)) hoth hp (by decide), owns_other ho hoth hp (by decide)⟩, ?_, hp⟩
  simp [World.setCell, Array.getElem?_modify, hp]
theorem cells_rise (l : List Int) (n : Int) : (cellsI l).take (l.countP (· < n) * 1) ++ [.int .i64 n] ++ (cellsI l).drop (l.countP (· < n) * 1) = cellsI (rise l n) := by
  unfold cellsI rise
  simp [List.map_take, List.map_drop]
theorem length_rise (l : List Int) (n : Int) : (rise l n).length = l.length + 1 := by
  have := List.countP_le_length (p := fun x => decide (x < n)) (l := l)
  unfold rise
  simp only [List.length_append, List.length_take, List.length_cons, List.length_drop]
  omega
theorem spendC_no {l : Ls} {key : ByteArray} {n : Int} (h : idxS (fun c : Sc => decide (c.key = key)) l.sl = -1) : spendS l 4 key n = (l, 14) := by
  show spendC l key n = _
  unfold spendC scIx
  rw [h, if_pos (by decide)]
theorem spendC_few {l : Ls} {key : ByteArray} {n : Int} {k : Nat} (hk : k < l.sl.length) (h : idxS (fun c : Sc => decide (c.key = key)) l.sl = k) (h2 : l.sl[k].up - l.sl[k].uu < n ∨ l.sl[k].down - l.sl[k].ud < -n) : spendS l 4 key n = (l, 14) := by
  show spendC l key n = _
  unfold spendC scIx
  have e : l.sl.getD (k : Int).toNat zSc = l.sl[k] := by simp [List.getD, List.getElem?_eq_getElem hk]
  rw [h, e, if_neg (by omega), if_pos h2]
theorem spendC_ok {l : Ls} {key : ByteArray} {n : Int} {k : Nat} (hk : k < l.sl.length) (h : idxS (fun c : Sc => decide (c.key = key)) l.sl = k) (h2 : ¬ l.sl[k].up - l.sl[k].uu < n) (h3 : ¬ l.sl[k].down - l.sl[k].ud < -n) :
    spendS l 4 key n = (⟨l.dev, l.epoch, l.unt, l.last, l.sl.set k ⟨l.sl[k].key, l.sl[k].up, l.sl[k].down, l.sl[k].uu + max n 0, l.sl[k].ud + max (-n) 0⟩, l.ids, l.used⟩, 0) := by
  show spendC l key n = _
  unfold spendC scIx
  have e : l.sl.getD (k : Int).toNat zSc = l.sl[k] := by simp [List.getD, List.getElem?_eq_getElem hk]
  rw [h, e, if_neg (by omega), if_neg (fun hh => by rcases hh with hh | hh; exact h2 hh; exact h3 hh)]
  simp [useS]
theorem spendB_no {l : Ls} {key : ByteArray} {n : Int} (h : hasR l.ids n = false) : spendS l 5 key n = (l, 14) := by
  show spendB l n = _
  unfold spendB
  rw [if_pos h]
theorem spendB_is {l : Ls} {key : ByteArray} {n : Int} (h : hasR l.ids n = true) (h2 : l.used.contains n = true) : spendS l 5 key n = (l, 7) := by
  show spendB l n = _
  unfold spendB
  rw [if_neg (by rw [h]; simp), if_pos h2]
theorem spendB_ok {l : Ls} {key : ByteArray} {n : Int} (h : hasR l.ids n = true) (h2 : l.used.contains n = false) : spendS l 5 key n = (⟨l.dev, l.epoch, l.unt, l.last, l.sl, l.ids, rise l.used n⟩, 0) := by
  show spendB l n = _
  unfold spendB
  rw [if_neg (by rw [h]; simp), if_neg (by rw [h2]; simp)]
theorem spendS_else {l : Ls} {key : ByteArray} {n kind : Int} (h : kind ≠ 4) (h2 : kind ≠ 5) : spendS l kind key n = (l, 0) := by
  unfold spendS
  rw [if_neg h, if_neg h2]

set_option maxRecDepth 100000 in
set_option maxHeartbeats 8000000 in
theorem spend_own (x : LsC) (l : Ls) (o : Opr) (w : World) (h : LsM w x l) (hB : SpB l o.n) :
    Calls Try.prog 22 #[aLs x, aOp o] w (RetSpO w (spendS l o.kind o.key o.n)) := by
  obtain ⟨x1, x2, x3, x4, ⟨x5, x6, x7⟩, ⟨x8, x9, x10⟩, ⟨x11, x12, x13⟩⟩ := x
  obtain ⟨o1, o2, o3, o4, o5, kind, key, text, n, time, ⟨oa, on, oc⟩⟩ := o
  simp only
  obtain ⟨W1, hW1, k0, k1, k2, hb1, hz1⟩ := alloc3 w (.cells #[.int .i64 x1, .int .i64 x2, .int .i64 x3, .int .i64 x4, .slice x5 x6 x7, .slice x8 x9 x10, .slice x11 x12 x13] 45) (.cells #[.int .i64 o1, .int .i64 o2, .int .i64 o3, .int .i64 o4, .int .i64 o5, .int .i64 kind, .string key, .string text, .int .i64 n, .int .i64 time, .slice oa on oc] 63) (.cells #[.int .i64 0, .int .i64 0, .int .i64 0, .int .i64 0, .slice none 0 0, .slice none 0 0, .slice none 0 0] 45)
  have HW1 := Lib.hid hW1
  have hz1' : w.heap.size + 2 < W1.heap.size := by omega
  have K0 := Lib.hid k0
  have K1 := Lib.hid k1
  have K2 := Lib.hid k2
  have HM := Lib.hid (h.keep hb1 (Nat.le_refl _))
  have HBW := Lib.hid hb1
  have HB := Lib.hid hB
  have HLB : Hid (LsB l) := Lib.hid ⟨hB.s, hB.i, by have := hB.u; omega⟩
  obtain ⟨hn1, hn2⟩ := hB.n
  simp only at hn1 hn2
  clear hW1 hz1 k0 k1 k2 hb1 h hB
  change Calls Try.prog _ #[.agg #[.int .i64 x1, .int .i64 x2, .int .i64 x3, .int .i64 x4, .slice x5 x6 x7, .slice x8 x9 x10, .slice x11 x12 x13], .agg #[.int .i64 o1, .int .i64 o2, .int .i64 o3, .int .i64 o4, .int .i64 o5, .int .i64 kind, .string key, .string text, .int .i64 n, .int .i64 time, .slice oa on oc]] w _
  go_enter Try.func22, Try.ntmps22
  go_upto_region 1 with fail
  rw [HW1.out]
  obtain ⟨d0, d1, d2, d3, d4, d5, d6, _⟩ := seven_cells K0.out
  go_wp2_with fail
  refine (lease_any ⟨x1, x2, x3, x4, ⟨x5, x6, x7⟩, ⟨x8, x9, x10⟩, ⟨x11, x12, x13⟩⟩ l _ HM.out HLB.out).mono ?_
  rintro e U0 ⟨⟨y1, y2, y3, y4, ⟨y5, y6, y7⟩, ⟨y8, y9, y10⟩, ⟨y11, y12, y13⟩⟩, rfl, hy, hb0⟩
  clear d0 d1 d2 d3 d4 d5 d6
  have hbA : Below U0.heap.size U0 (U0.alloc (.cells #[.int .i64 y1, .int .i64 y2, .int .i64 y3, .int .i64 y4, .slice y5 y6 y7, .slice y8 y9 y10, .slice y11 y12 y13] 45)) := (Below.refl _ _).alloc (Nat.le_refl _) _
  have K6 := Lib.hid (heap_alloc_new U0 (.cells #[.int .i64 y1, .int .i64 y2, .int .i64 y3, .int .i64 y4, .slice y5 y6 y7, .slice y8 y9 y10, .slice y11 y12 y13] 45))
  have HY := Lib.hid (hy.keep hbA (Nat.le_refl _))
  have HB2 := Lib.hid (hb0.trans (hbA.mono hb0.size))
  have hz0 := hb0.size
  have hzA : U0.heap.size < (U0.alloc (.cells #[.int .i64 y1, .int .i64 y2, .int .i64 y3, .int .i64 y4, .slice y5 y6 y7, .slice y8 y9 y10, .slice y11 y12 y13] 45)).heap.size := by simp
  clear hy hb0 hbA
  go_upto_region 2 with fail
  generalize U0.alloc (.cells #[.int .i64 y1, .int .i64 y2, .int .i64 y3, .int .i64 y4, .slice y5 y6 y7, .slice y8 y9 y10, .slice y11 y12 y13] 45) = W2 at *
  have KO : Hid (∀ V, Below W1.heap.size W1 V → V.cell? ⟨w.heap.size + 1, 5, none⟩ = some (.int .i64 kind) ∧ V.cell? ⟨w.heap.size + 1, 6, none⟩ = some (.string key) ∧ V.cell? ⟨w.heap.size + 1, 8, none⟩ = some (.int .i64 n)) := Lib.hid (fun V hV => by
    have hh := block_below K1.out hV (by omega)
    refine ⟨?_, ?_, ?_⟩ <;> simp [World.cell?, hh])
  have HW2 : Hid (∀ V, Below W2.heap.size W2 V → Below W1.heap.size W1 V) := Lib.hid (fun V hV => HB2.out.trans (hV.mono HB2.out.size))
  obtain ⟨e5, e6, e8⟩ := KO.out _ HB2.out
  obtain ⟨d0, d1, d2, d3, d4, d5, d6, hx9⟩ := seven_cells K6.out
  clear hx9
  have hr2 : Below W2.heap.size W2 W2 := Below.refl _ _
  generalize hp6 : U0.heap.size = p6 at *
  have HP6 := Lib.hid hp6
  clear hp6
  by_cases hkd : kind = 4
  · subst hkd
    rcases idxS_spec (fun c : Sc => decide (c.key = key)) l.sl with ⟨hi, _⟩ | ⟨k, hk, hi, _, _⟩
    · have HRES := Lib.hid (spendC_no (n := n) hi)
      go_wp2_with fail
      refine (idxSc_any _ l.sl _ _ (fun c => decide (c.key = key)) _ (sl_of_owns HY.out.s) (asksSp1 e6 _)).mono ?_
      rintro e V ⟨rfl, hV⟩
      rw [hi]
      have HV := Lib.hid hV
      clear hV d0 d1 d2 d3 d4 d5 d6 e5 e6 e8 hi hr2
      obtain ⟨d0, d1, d2, d3, d4, d5, d6, _⟩ := seven_cells (block_below K0.out (HB2.out.trans ((HV.out).mono HB2.out.size)) (by omega))
      have HBU := Lib.hid (HBW.out.trans ((HB2.out.trans ((HV.out).mono HB2.out.size)).mono HBW.out.size))
      have HK4U := Lib.hid (block_below K2.out (HB2.out.trans ((HV.out).mono HB2.out.size)) (by omega))
      have hz4 := (Array.getElem?_eq_some_iff.1 HK4U.out).1
      go_wp2_with fail
      refine (lease_any ⟨x1, x2, x3, x4, ⟨x5, x6, x7⟩, ⟨x8, x9, x10⟩, ⟨x11, x12, x13⟩⟩ l _ (HM.out.keep (HB2.out.trans ((HV.out).mono HB2.out.size)) (Nat.le_refl _)) (HLB.out)).mono ?_
      rintro e U2 ⟨⟨z1, z2, z3, z4, ⟨z5, z6, z7⟩, ⟨z8, z9, z10⟩, ⟨z11, z12, z13⟩⟩, rfl, hzz, hbz⟩
      have HZ := Lib.hid hzz
      have HB4 := Lib.hid hbz
      have hk4 := block_below HK4U.out hbz hz4
      obtain ⟨q0, q1, q2, q3, q4, q5, q6, _⟩ := seven_cells hk4
      have f0 := seven_free hk4 0
      have f1 := seven_free hk4 1
      have f2 := seven_free hk4 2
      have f3 := seven_free hk4 3
      have f4 := seven_free hk4 4
      have f5 := seven_free hk4 5
      have f6 := seven_free hk4 6
      clear hzz hbz hk4 d0 d1 d2 d3 d4 d5 d6
      go_wp2
      refine bodyPost_ret (v := .tuple #[.agg #[.int .i64 z1, .int .i64 z2, .int .i64 z3, .int .i64 z4, .slice z5 z6 z7, .slice z8 z9 z10, .slice z11 z12 z13], .int .i64 14]) (by simp [results, Try.results22, go_sem, *]) rfl (show RetSpO _ _ _ _ from ?_)
      rw [HRES.out]
      exact ret_spent (y := ⟨z1, z2, z3, z4, ⟨z5, z6, z7⟩, ⟨z8, z9, z10⟩, ⟨z11, z12, z13⟩⟩) (p := w.heap.size + 2) HBU.out HB4.out HZ.out (by omega) hz4
    · have HNO := Lib.hid (spendC_few (n := n) hk hi)
      have HYES := Lib.hid (spendC_ok (n := n) hk hi)
      have HSC := HB.out.sc l.sl[k] (List.getElem_mem hk)
      obtain ⟨⟨b1, b2⟩, ⟨b3, b4⟩, ⟨b5, b6⟩, b7, b8⟩ := HSC
      obtain ⟨g, cap, hys⟩ := owns_some HY.out.s (by omega)
      injection hys with hys1 hys2 hys3
      subst hys1 hys2 hys3
      go_wp2_with fail
      refine (idxSc_any _ l.sl _ _ (fun c => decide (c.key = key)) _ (sl_of_owns HY.out.s) (asksSp1 e6 _)).mono ?_
      rintro e V ⟨rfl, hV⟩
      rw [hi]
      have HV := Lib.hid hV
      have HYV := Lib.hid (HY.out.keep hV (Nat.le_refl _))
      have hK6V := block_below K6.out hV hzA
      clear d0 d1 d2 d3 d4 d5 d6 e5 e6 e8 hi hr2
      obtain ⟨e5, e6, e8⟩ := KO.out _ (HW2.out _ hV)
      obtain ⟨d0, d1, d2, d3, d4, d5, d6, hx9⟩ := seven_cells hK6V
      have HK6V := Lib.hid hK6V
      clear hx9 hV hK6V
      obtain ⟨r1, r2, r3, r4, r5, r6, r7⟩ := owns_block HYV.out.s
      have c1 := r7 (k * 5 + 1) _ (by rw [cellsT_at cSc_len _ k hk 1 (by omega)]; rfl)
      have c2 := r7 (k * 5 + 2) _ (by rw [cellsT_at cSc_len _ k hk 2 (by omega)]; rfl)
      have c3 := r7 (k * 5 + 3) _ (by rw [cellsT_at cSc_len _ k hk 3 (by omega)]; rfl)
      have c4 := r7 (k * 5 + 4) _ (by rw [cellsT_at cSc_len _ k hk 4 (by omega)]; rfl)
      have HC3 : Hid ((cellsT cSc l.sl)[k * 5 + 3]? = some (.int .i64 l.sl[k].uu)) := Lib.hid (by rw [cellsT_at cSc_len _ k hk 3 (by omega)]; rfl)
      have HC4 : Hid ((cellsT cSc l.sl)[k * 5 + 4]? = some (.int .i64 l.sl[k].ud)) := Lib.hid (by rw [cellsT_at cSc_len _ k hk 4 (by omega)]; rfl)
      have HSET := Lib.hid (cellsSc_set l.sl k hk)
      have g3 := r6 (k * 5 + 3)
      have g4 := r6 (k * 5 + 4)
      clear r7 r6
      generalize hsu : l.sl[k].up = su at *
      generalize hsd : l.sl[k].down = sd at *
      have HSU := Lib.hid hsu
      have HSD := Lib.hid hsd
      clear hsu hsd
      generalize l.sl[k].uu = uu at *
      generalize l.sl[k].ud = ud at *
      have hls := HB.out.s
      have klt : (k : Int) < l.sl.length := by omega
      have i1 : IntKind.i64.wrap (su - uu) = su - uu := IntWalk.i64_in _ (by omega)
      have i2 : IntKind.i64.wrap (sd - ud) = sd - ud := IntWalk.i64_in _ (by omega)
      have i3 : IntKind.i64.wrap (-n) = -n := IntWalk.i64_in _ (by omega)
      by_cases h1 : su - uu < n
      · have dh1 : decide (su - uu < n) = true := by simpa using h1
        have HRES := Lib.hid (HNO.out (.inl h1))
        clear h1
        go_wp2_with fail
        go_quiet (fail)
        have hVQ := below_drewN HV.out nq
        clear d0 d1 d2 d3 d4 d5 d6 e5 e6 e8 c1 c2 c3 c4 g3 g4 i1 i2 i3 dh1
        obtain ⟨d0, d1, d2, d3, d4, d5, d6, _⟩ := seven_cells (block_below K0.out (HB2.out.trans ((hVQ).mono HB2.out.size)) (by omega))
        have HBU := Lib.hid (HBW.out.trans ((HB2.out.trans ((hVQ).mono HB2.out.size)).mono HBW.out.size))
        have HK4U := Lib.hid (block_below K2.out (HB2.out.trans ((hVQ).mono HB2.out.size)) (by omega))
        have hz4 := (Array.getElem?_eq_some_iff.1 HK4U.out).1
        go_wp2_with fail
        refine (lease_any ⟨x1, x2, x3, x4, ⟨x5, x6, x7⟩, ⟨x8, x9, x10⟩, ⟨x11, x12, x13⟩⟩ l _ (HM.out.keep (HB2.out.trans ((hVQ).mono HB2.out.size)) (Nat.le_refl _)) (HLB.out)).mono ?_
        rintro e U2 ⟨⟨z1, z2, z3, z4, ⟨z5, z6, z7⟩, ⟨z8, z9, z10⟩, ⟨z11, z12, z13⟩⟩, rfl, hzz, hbz⟩
        have HZ := Lib.hid hzz
        have HB4 := Lib.hid hbz
        have hk4 := block_below HK4U.out hbz hz4
        obtain ⟨q0, q1, q2, q3, q4, q5, q6, _⟩ := seven_cells hk4
        have f0 := seven_free hk4 0
        have f1 := seven_free hk4 1
        have f2 := seven_free hk4 2
        have f3 := seven_free hk4 3
        have f4 := seven_free hk4 4
        have f5 := seven_free hk4 5
        have f6 := seven_free hk4 6
        clear hzz hbz hk4 d0 d1 d2 d3 d4 d5 d6
        go_wp2
        refine bodyPost_ret (v := .tuple #[.agg #[.int .i64 z1, .int .i64 z2, .int .i64 z3, .int .i64 z4, .slice z5 z6 z7, .slice z8 z9 z10, .slice z11 z12 z13], .int .i64 14]) (by simp [results, Try.results22, go_sem, *]) rfl (show RetSpO _ _ _ _ from ?_)
        rw [HRES.out]
        exact ret_spent (y := ⟨z1, z2, z3, z4, ⟨z5, z6, z7⟩, ⟨z8, z9, z10⟩, ⟨z11, z12, z13⟩⟩) (p := w.heap.size + 2) HBU.out HB4.out HZ.out (by omega) hz4
      · have dh1 : decide (su - uu < n) = false := by simpa using h1
        by_cases h2 : sd - ud < -n
        · have dh2 : decide (sd - ud < -n) = true := by simpa using h2
          have HRES := Lib.hid (HNO.out (.inr h2))
          clear h1 h2
          go_wp2_with fail
          go_quiet (fail)
          have hVQ := below_drewN HV.out nq
          clear d0 d1 d2 d3 d4 d5 d6 e5 e6 e8 c1 c2 c3 c4 g3 g4 i1 i2 i3 dh1 dh2
          obtain ⟨d0, d1, d2, d3, d4, d5, d6, _⟩ := seven_cells (block_below K0.out (HB2.out.trans ((hVQ).mono HB2.out.size)) (by omega))
          have HBU := Lib.hid (HBW.out.trans ((HB2.out.trans ((hVQ).mono HB2.out.size)).mono HBW.out.size))
          have HK4U := Lib.hid (block_below K2.out (HB2.out.trans ((hVQ).mono HB2.out.size)) (by omega))
          have hz4 := (Array.getElem?_eq_some_iff.1 HK4U.out).1
          go_wp2_with fail
          refine (lease_any ⟨x1, x2, x3, x4, ⟨x5, x6, x7⟩, ⟨x8, x9, x10⟩, ⟨x11, x12, x13⟩⟩ l _ (HM.out.keep (HB2.out.trans ((hVQ).mono HB2.out.size)) (Nat.le_refl _)) (HLB.out)).mono ?_
          rintro e U2 ⟨⟨z1, z2, z3, z4, ⟨z5, z6, z7⟩, ⟨z8, z9, z10⟩, ⟨z11, z12, z13⟩⟩, rfl, hzz, hbz⟩
          have HZ := Lib.hid hzz
          have HB4 := Lib.hid hbz
          have hk4 := block_below HK4U.out hbz hz4
          obtain ⟨q0, q1, q2, q3, q4, q5, q6, _⟩ := seven_cells hk4
          have f0 := seven_free hk4 0
          have f1 := seven_free hk4 1
          have f2 := seven_free hk4 2
          have f3 := seven_free hk4 3
          have f4 := seven_free hk4 4
          have f5 := seven_free hk4 5
          have f6 := seven_free hk4 6
          clear hzz hbz hk4 d0 d1 d2 d3 d4 d5 d6
          go_wp2
          refine bodyPost_ret (v := .tuple #[.agg #[.int .i64 z1, .int .i64 z2, .int .i64 z3, .int .i64 z4, .slice z5 z6 z7, .slice z8 z9 z10, .slice z11 z12 z13], .int .i64 14]) (by simp [results, Try.results22, go_sem, *]) rfl (show RetSpO _ _ _ _ from ?_)
          rw [HRES.out]
          exact ret_spent (y := ⟨z1, z2, z3, z4, ⟨z5, z6, z7⟩, ⟨z8, z9, z10⟩, ⟨z11, z12, z13⟩⟩) (p := w.heap.size + 2) HBU.out HB4.out HZ.out (by omega) hz4
        · have dh2 : decide (sd - ud < -n) = false := by simpa using h2
          have HRES := Lib.hid (HYES.out (by omega) (by omega))
          clear h1 h2
          go_wp2_with fail
          go_quiet (fail)
          go_upto_region 10 with fail
          have hVQ := below_drewN HV.out nq
          have HV3 := Lib.hid hVQ
          have HY3 := Lib.hid (HY.out.keep hVQ (Nat.le_refl _))
          have HK63 := Lib.hid (block_below K6.out hVQ hzA)
          clear d0 d1 d2 d3 d4 d5 d6 e5 e6 e8 c1 c2 c3 c4 g3 g4 dh1 dh2 HYV HK6V HV HNO HYES
          obtain ⟨e5, e6, e8⟩ := KO.out _ (HW2.out _ hVQ)
          clear hVQ
          generalize V.drewN nq = V3 at *
          obtain ⟨r1, r2, r3, r4, r5, r6, r7⟩ := owns_block HY3.out.s
          have c3 : V3.cell? ⟨g, k * 5 + 3, none⟩ = some (.int .i64 uu) := r7 (k * 5 + 3) _ HC3.out
          have g3 := r6 (k * 5 + 3)
          clear r6 r7
          have h3 : n < 0 ∨ n = 0 ∨ 0 < n := by omega
          rcases h3 with h3 | h3 | h3
          · have e1 : uu + max n 0 = uu := by omega
            have e2 : ud + max (-n) 0 = ud + -n := by omega
            rw [e1, e2] at HRES
            clear e1 e2
            have i4 : IntKind.i64.wrap (uu) = uu := IntWalk.i64_in _ (by omega)
            have HGS := Lib.hid r1
            have hg1 : W1.heap.size ≤ g := r1
            have hl5 : (cellsT cSc l.sl).length = l.sl.length * 5 := cellsT_len cSc_len _
            have ho4 : (V3.drew.setCell ⟨g, k * 5 + 3, none⟩ (.int .i64 (uu))).ownsRow W1.heap.size 51 5 (.slice (some ⟨g, 0, none⟩) l.sl.length y7) l.sl.length ((cellsT cSc l.sl).set (k * 5 + 3) (.int .i64 (uu))) := owns_set (show V3.drew.ownsRow _ _ _ _ _ _ from HY3.out.s) (k * 5 + 3) (by omega) _
            obtain ⟨_, _, _, _, _, u6, u7⟩ := owns_block ho4
            have c4 := u7 (k * 5 + 4) (.int .i64 ud) (by rw [List.getElem?_set_ne (by omega)]; exact HC4.out)
            have g4 := u6 (k * 5 + 4)
            have hb4 : Below W1.heap.size W1 (V3.drew.setCell ⟨g, k * 5 + 3, none⟩ (.int .i64 (uu))) := (HW2.out _ HV3.out).drew.setCell hg1 _
            have hko := KO.out _ hb4
            have hfin := HY3.out.setS (g := g) rfl k hk (uu) ((ud + -n))
            rw [HSU.out, HSD.out] at hfin
            have HFIN := Lib.hid hfin
            clear hfin
            have i5 : IntKind.i64.wrap ((ud + -n)) = (ud + -n) := IntWalk.i64_in _ (by omega)
            have hgp : g ≠ p6 := fun e => by
              have h1 := HK63.out
              obtain ⟨cur, hc⟩ := owns_curA HY3.out.s
              rw [← e, hc] at h1
              injection h1 with h1
              injection h1 with _ h1 _
              exact absurd h1 (by decide)
            have HK6F := Lib.hid ((set_ne2 V3.drew.drew g p6 (fun e => hgp e.symm) (k * 5 + 3) (k * 5 + 4) (.int .i64 (uu)) (.int .i64 ((ud + -n)))).trans HK63.out)
            have HBF : Hid (Below W1.heap.size W1 ((V3.drew.drew.setCell ⟨g, k * 5 + 3, none⟩ (.int .i64 (uu))).setCell ⟨g, k * 5 + 4, none⟩ (.int .i64 ((ud + -n))))) := Lib.hid ((((HW2.out _ HV3.out).drew.drew).setCell hg1 _).setCell hg1 _)
            have HU : Hid (∀ V, V = V3.drew.setCell ⟨g, k * 5 + 3, none⟩ (.int .i64 (uu)) → V.drew.setCell ⟨g, k * 5 + 4, none⟩ (.int .i64 ((ud + -n))) = (V3.drew.drew.setCell ⟨g, k * 5 + 3, none⟩ (.int .i64 (uu))).setCell ⟨g, k * 5 + 4, none⟩ (.int .i64 ((ud + -n)))) := Lib.hid (fun V hV => by rw [hV]; rfl)
            clear u6 u7 ho4 hb4 hl5 hg1 hgp r1
            go_still_tail 10, (by kernel_rfl)
            change wpList _ _ _ _ _ V3.drew
            go_wp2
            rw [show (V3.setCell ⟨g, k * 5 + 3, none⟩ (.int .i64 (uu))).drew = V3.drew.setCell ⟨g, k * 5 + 3, none⟩ (.int .i64 (uu)) from rfl]
            have HV5 := Lib.hid (HU.out _ rfl)
            clear HU
            generalize V3.drew.setCell ⟨g, k * 5 + 3, none⟩ (.int .i64 (uu)) = U5 at *
            clear e5 e6 e8 c3 g3 i4
            obtain ⟨e5, e6, e8⟩ := hko
            go_still_tail 11, (by kernel_rfl)
            change wpList _ _ _ _ _ U5.drew
            go_upto_region 19 with fail
            try rw [show (ud + if (0 : Int) < 0 then (0 : Int) else 0) = ud by simp]
            rw [show (U5.setCell ⟨g, k * 5 + 4, none⟩ (.int .i64 (ud + -n))).drew = U5.drew.setCell ⟨g, k * 5 + 4, none⟩ (.int .i64 (ud + -n)) from rfl, HV5.out]
            generalize (V3.drew.drew.setCell ⟨g, k * 5 + 3, none⟩ (.int .i64 uu)).setCell ⟨g, k * 5 + 4, none⟩ (.int .i64 (ud + -n)) = W9 at *
            clear c4 g4 e5 e6 e8 HV5 i5
            have HLB2 : Hid (LsB ⟨l.dev, l.epoch, l.unt, l.last, l.sl.set k ⟨l.sl[k].key, su, sd, uu, (ud + -n)⟩, l.ids, l.used⟩) := Lib.hid ⟨by rw [List.length_set]; exact HLB.out.s, HLB.out.i, HLB.out.u⟩
            obtain ⟨d0, d1, d2, d3, d4, d5, d6, _⟩ := seven_cells (HK6F.out)
            have HBU := Lib.hid (HBW.out.trans (HBF.out.mono HBW.out.size))
            have HK4U := Lib.hid (block_below K2.out HBF.out (by omega))
            have hz4 := (Array.getElem?_eq_some_iff.1 HK4U.out).1
            go_wp2_with fail
            refine (lease_any ⟨y1, y2, y3, y4, ⟨some ⟨g, 0, none⟩, l.sl.length, y7⟩, ⟨y8, y9, y10⟩, ⟨y11, y12, y13⟩⟩ _ _ (HFIN.out.m) (HLB2.out)).mono ?_
            rintro e U2 ⟨⟨z1, z2, z3, z4, ⟨z5, z6, z7⟩, ⟨z8, z9, z10⟩, ⟨z11, z12, z13⟩⟩, rfl, hzz, hbz⟩
            have HZ := Lib.hid hzz
            have HB4 := Lib.hid hbz
            have hk4 := block_below HK4U.out hbz hz4
            obtain ⟨q0, q1, q2, q3, q4, q5, q6, _⟩ := seven_cells hk4
            have f0 := seven_free hk4 0
            have f1 := seven_free hk4 1
            have f2 := seven_free hk4 2
            have f3 := seven_free hk4 3
            have f4 := seven_free hk4 4
            have f5 := seven_free hk4 5
            have f6 := seven_free hk4 6
            clear hzz hbz hk4 d0 d1 d2 d3 d4 d5 d6
            go_wp2
            refine bodyPost_ret (v := .tuple #[.agg #[.int .i64 z1, .int .i64 z2, .int .i64 z3, .int .i64 z4, .slice z5 z6 z7, .slice z8 z9 z10, .slice z11 z12 z13], .int .i64 0]) (by simp [results, Try.results22, go_sem, *]) rfl (show RetSpO _ _ _ _ from ?_)
            rw [HRES.out]
            exact ret_spent (y := ⟨z1, z2, z3, z4, ⟨z5, z6, z7⟩, ⟨z8, z9, z10⟩, ⟨z11, z12, z13⟩⟩) (p := w.heap.size + 2) HBU.out HB4.out HZ.out (by omega) hz4
          · subst h3
            have e1 : uu + max 0 0 = uu := by omega
            have e2 : ud + max (-0) 0 = ud := by omega
            rw [e1, e2] at HRES
            clear e1 e2
            have i4 : IntKind.i64.wrap (uu) = uu := IntWalk.i64_in _ (by omega)
            have HGS := Lib.hid r1
            have hg1 : W1.heap.size ≤ g := r1
            have hl5 : (cellsT cSc l.sl).length = l.sl.length * 5 := cellsT_len cSc_len _
            have ho4 : (V3.drew.setCell ⟨g, k * 5 + 3, none⟩ (.int .i64 (uu))).ownsRow W1.heap.size 51 5 (.slice (some ⟨g, 0, none⟩) l.sl.length y7) l.sl.length ((cellsT cSc l.sl).set (k * 5 + 3) (.int .i64 (uu))) := owns_set (show V3.drew.ownsRow _ _ _ _ _ _ from HY3.out.s) (k * 5 + 3) (by omega) _
            obtain ⟨_, _, _, _, _, u6, u7⟩ := owns_block ho4
            have c4 := u7 (k * 5 + 4) (.int .i64 ud) (by rw [List.getElem?_set_ne (by omega)]; exact HC4.out)
            have g4 := u6 (k * 5 + 4)
            have hb4 : Below W1.heap.size W1 (V3.drew.setCell ⟨g, k * 5 + 3, none⟩ (.int .i64 (uu))) := (HW2.out _ HV3.out).drew.setCell hg1 _
            have hko := KO.out _ hb4
            have hfin := HY3.out.setS (g := g) rfl k hk (uu) (ud)
            rw [HSU.out, HSD.out] at hfin
            have HFIN := Lib.hid hfin
            clear hfin
            have i5 : IntKind.i64.wrap (ud) = ud := IntWalk.i64_in _ (by omega)
            have hgp : g ≠ p6 := fun e => by
              have h1 := HK63.out
              obtain ⟨cur, hc⟩ := owns_curA HY3.out.s
              rw [← e, hc] at h1
              injection h1 with h1
              injection h1 with _ h1 _
              exact absurd h1 (by decide)
            have HK6F := Lib.hid ((set_ne2 V3.drew.drew g p6 (fun e => hgp e.symm) (k * 5 + 3) (k * 5 + 4) (.int .i64 (uu)) (.int .i64 (ud))).trans HK63.out)
            have HBF : Hid (Below W1.heap.size W1 ((V3.drew.drew.setCell ⟨g, k * 5 + 3, none⟩ (.int .i64 (uu))).setCell ⟨g, k * 5 + 4, none⟩ (.int .i64 (ud)))) := Lib.hid ((((HW2.out _ HV3.out).drew.drew).setCell hg1 _).setCell hg1 _)
            have HU : Hid (∀ V, V = V3.drew.setCell ⟨g, k * 5 + 3, none⟩ (.int .i64 (uu)) → V.drew.setCell ⟨g, k * 5 + 4, none⟩ (.int .i64 (ud)) = (V3.drew.drew.setCell ⟨g, k * 5 + 3, none⟩ (.int .i64 (uu))).setCell ⟨g, k * 5 + 4, none⟩ (.int .i64 (ud))) := Lib.hid (fun V hV => by rw [hV]; rfl)
            clear u6 u7 ho4 hb4 hl5 hg1 hgp r1
            go_still_tail 10, (by kernel_rfl)
            change wpList _ _ _ _ _ V3.drew
            go_wp2
            rw [show (V3.setCell ⟨g, k * 5 + 3, none⟩ (.int .i64 (uu))).drew = V3.drew.setCell ⟨g, k * 5 + 3, none⟩ (.int .i64 (uu)) from rfl]
            have HV5 := Lib.hid (HU.out _ rfl)
            clear HU
            generalize V3.drew.setCell ⟨g, k * 5 + 3, none⟩ (.int .i64 (uu)) = U5 at *
            clear e5 e6 e8 c3 g3 i4
            obtain ⟨e5, e6, e8⟩ := hko
            go_still_tail 11, (by kernel_rfl)
            change wpList _ _ _ _ _ U5.drew
            go_upto_region 19 with fail
            try rw [show (ud + if (0 : Int) < 0 then (0 : Int) else 0) = ud by simp]
            rw [show (U5.setCell ⟨g, k * 5 + 4, none⟩ (.int .i64 ud)).drew = U5.drew.setCell ⟨g, k * 5 + 4, none⟩ (.int .i64 ud) from rfl, HV5.out]
            generalize (V3.drew.drew.setCell ⟨g, k * 5 + 3, none⟩ (.int .i64 uu)).setCell ⟨g, k * 5 + 4, none⟩ (.int .i64 ud) = W9 at *
            clear c4 g4 e5 e6 e8 HV5 i5
            have HLB2 : Hid (LsB ⟨l.dev, l.epoch, l.unt, l.last, l.sl.set k ⟨l.sl[k].key, su, sd, uu, ud⟩, l.ids, l.used⟩) := Lib.hid ⟨by rw [List.length_set]; exact HLB.out.s, HLB.out.i, HLB.out.u⟩
            obtain ⟨d0, d1, d2, d3, d4, d5, d6, _⟩ := seven_cells (HK6F.out)
            have HBU := Lib.hid (HBW.out.trans (HBF.out.mono HBW.out.size))
            have HK4U := Lib.hid (block_below K2.out HBF.out (by omega))
            have hz4 := (Array.getElem?_eq_some_iff.1 HK4U.out).1
            go_wp2_with fail
            refine (lease_any ⟨y1, y2, y3, y4, ⟨some ⟨g, 0, none⟩, l.sl.length, y7⟩, ⟨y8, y9, y10⟩, ⟨y11, y12, y13⟩⟩ _ _ (HFIN.out.m) (HLB2.out)).mono ?_
            rintro e U2 ⟨⟨z1, z2, z3, z4, ⟨z5, z6, z7⟩, ⟨z8, z9, z10⟩, ⟨z11, z12, z13⟩⟩, rfl, hzz, hbz⟩
            have HZ := Lib.hid hzz
            have HB4 := Lib.hid hbz
            have hk4 := block_below HK4U.out hbz hz4
            obtain ⟨q0, q1, q2, q3, q4, q5, q6, _⟩ := seven_cells hk4
            have f0 := seven_free hk4 0
            have f1 := seven_free hk4 1
            have f2 := seven_free hk4 2
            have f3 := seven_free hk4 3
            have f4 := seven_free hk4 4
            have f5 := seven_free hk4 5
            have f6 := seven_free hk4 6
            clear hzz hbz hk4 d0 d1 d2 d3 d4 d5 d6
            go_wp2
            refine bodyPost_ret (v := .tuple #[.agg #[.int .i64 z1, .int .i64 z2, .int .i64 z3, .int .i64 z4, .slice z5 z6 z7, .slice z8 z9 z10, .slice z11 z12 z13], .int .i64 0]) (by simp [results, Try.results22, go_sem, *]) rfl (show RetSpO _ _ _ _ from ?_)
            rw [HRES.out]
            exact ret_spent (y := ⟨z1, z2, z3, z4, ⟨z5, z6, z7⟩, ⟨z8, z9, z10⟩, ⟨z11, z12, z13⟩⟩) (p := w.heap.size + 2) HBU.out HB4.out HZ.out (by omega) hz4
          · have e1 : uu + max n 0 = uu + n := by omega
            have e2 : ud + max (-n) 0 = ud := by omega
            rw [e1, e2] at HRES
            clear e1 e2
            have i4 : IntKind.i64.wrap (uu + n) = uu + n := IntWalk.i64_in _ (by omega)
            have HGS := Lib.hid r1
            have hg1 : W1.heap.size ≤ g := r1
            have hl5 : (cellsT cSc l.sl).length = l.sl.length * 5 := cellsT_len cSc_len _
            have ho4 : (V3.drew.setCell ⟨g, k * 5 + 3, none⟩ (.int .i64 ((uu + n)))).ownsRow W1.heap.size 51 5 (.slice (some ⟨g, 0, none⟩) l.sl.length y7) l.sl.length ((cellsT cSc l.sl).set (k * 5 + 3) (.int .i64 ((uu + n)))) := owns_set (show V3.drew.ownsRow _ _ _ _ _ _ from HY3.out.s) (k * 5 + 3) (by omega) _
            obtain ⟨_, _, _, _, _, u6, u7⟩ := owns_block ho4
            have c4 := u7 (k * 5 + 4) (.int .i64 ud) (by rw [List.getElem?_set_ne (by omega)]; exact HC4.out)
            have g4 := u6 (k * 5 + 4)
            have hb4 : Below W1.heap.size W1 (V3.drew.setCell ⟨g, k * 5 + 3, none⟩ (.int .i64 ((uu + n)))) := (HW2.out _ HV3.out).drew.setCell hg1 _
            have hko := KO.out _ hb4
            have hfin := HY3.out.setS (g := g) rfl k hk ((uu + n)) (ud)
            rw [HSU.out, HSD.out] at hfin
            have HFIN := Lib.hid hfin
            clear hfin
            have i5 : IntKind.i64.wrap (ud) = ud := IntWalk.i64_in _ (by omega)
            have hgp : g ≠ p6 := fun e => by
              have h1 := HK63.out
              obtain ⟨cur, hc⟩ := owns_curA HY3.out.s
              rw [← e, hc] at h1
              injection h1 with h1
              injection h1 with _ h1 _
              exact absurd h1 (by decide)
            have HK6F := Lib.hid ((set_ne2 V3.drew.drew g p6 (fun e => hgp e.symm) (k * 5 + 3) (k * 5 + 4) (.int .i64 ((uu + n))) (.int .i64 (ud))).trans HK63.out)
            have HBF : Hid (Below W1.heap.size W1 ((V3.drew.drew.setCell ⟨g, k * 5 + 3, none⟩ (.int .i64 ((uu + n)))).setCell ⟨g, k * 5 + 4, none⟩ (.int .i64 (ud)))) := Lib.hid ((((HW2.out _ HV3.out).drew.drew).setCell hg1 _).setCell hg1 _)
            have HU : Hid (∀ V, V = V3.drew.setCell ⟨g, k * 5 + 3, none⟩ (.int .i64 ((uu + n))) → V.drew.setCell ⟨g, k * 5 + 4, none⟩ (.int .i64 (ud)) = (V3.drew.drew.setCell ⟨g, k * 5 + 3, none⟩ (.int .i64 ((uu + n)))).setCell ⟨g, k * 5 + 4, none⟩ (.int .i64 (ud))) := Lib.hid (fun V hV => by rw [hV]; rfl)
            clear u6 u7 ho4 hb4 hl5 hg1 hgp r1
            go_still_tail 10, (by kernel_rfl)
            change wpList _ _ _ _ _ V3.drew
            go_wp2
            rw [show (V3.setCell ⟨g, k * 5 + 3, none⟩ (.int .i64 ((uu + n)))).drew = V3.drew.setCell ⟨g, k * 5 + 3, none⟩ (.int .i64 ((uu + n))) from rfl]
            have HV5 := Lib.hid (HU.out _ rfl)
            clear HU
            generalize V3.drew.setCell ⟨g, k * 5 + 3, none⟩ (.int .i64 ((uu + n))) = U5 at *
            clear e5 e6 e8 c3 g3 i4
            obtain ⟨e5, e6, e8⟩ := hko
            go_still_tail 11, (by kernel_rfl)
            change wpList _ _ _ _ _ U5.drew
            go_upto_region 19 with fail
            try rw [show (ud + if (0 : Int) < 0 then (0 : Int) else 0) = ud by simp]
            rw [show (U5.setCell ⟨g, k * 5 + 4, none⟩ (.int .i64 ud)).drew = U5.drew.setCell ⟨g, k * 5 + 4, none⟩ (.int .i64 ud) from rfl, HV5.out]
            generalize (V3.drew.drew.setCell ⟨g, k * 5 + 3, none⟩ (.int .i64 (uu + n))).setCell ⟨g, k * 5 + 4, none⟩ (.int .i64 ud) = W9 at *
            clear c4 g4 e5 e6 e8 HV5 i5
            have HLB2 : Hid (LsB ⟨l.dev, l.epoch, l.unt, l.last, l.sl.set k ⟨l.sl[k].key, su, sd, (uu + n), ud⟩, l.ids, l.used⟩) := Lib.hid ⟨by rw [List.length_set]; exact HLB.out.s, HLB.out.i, HLB.out.u⟩
            obtain ⟨d0, d1, d2, d3, d4, d5, d6, _⟩ := seven_cells (HK6F.out)
            have HBU := Lib.hid (HBW.out.trans (HBF.out.mono HBW.out.size))
            have HK4U := Lib.hid (block_below K2.out HBF.out (by omega))
            have hz4 := (Array.getElem?_eq_some_iff.1 HK4U.out).1
            go_wp2_with fail
            refine (lease_any ⟨y1, y2, y3, y4, ⟨some ⟨g, 0, none⟩, l.sl.length, y7⟩, ⟨y8, y9, y10⟩, ⟨y11, y12, y13⟩⟩ _ _ (HFIN.out.m) (HLB2.out)).mono ?_
            rintro e U2 ⟨⟨z1, z2, z3, z4, ⟨z5, z6, z7⟩, ⟨z8, z9, z10⟩, ⟨z11, z12, z13⟩⟩, rfl, hzz, hbz⟩
            have HZ := Lib.hid hzz
            have HB4 := Lib.hid hbz
            have hk4 := block_below HK4U.out hbz hz4
            obtain ⟨q0, q1, q2, q3, q4, q5, q6, _⟩ := seven_cells hk4
            have f0 := seven_free hk4 0
            have f1 := seven_free hk4 1
            have f2 := seven_free hk4 2
            have f3 := seven_free hk4 3
            have f4 := seven_free hk4 4
            have f5 := seven_free hk4 5
            have f6 := seven_free hk4 6
            clear hzz hbz hk4 d0 d1 d2 d3 d4 d5 d6
            go_wp2
            refine bodyPost_ret (v := .tuple #[.agg #[.int .i64 z1, .int .i64 z2, .int .i64 z3, .int .i64 z4, .slice z5 z6 z7, .slice z8 z9 z10, .slice z11 z12 z13], .int .i64 0]) (by simp [results, Try.results22, go_sem, *]) rfl (show RetSpO _ _ _ _ from ?_)
            rw [HRES.out]
            exact ret_spent (y := ⟨z1, z2, z3, z4, ⟨z5, z6, z7⟩, ⟨z8, z9, z10⟩, ⟨z11, z12, z13⟩⟩) (p := w.heap.size + 2) HBU.out HB4.out HZ.out (by omega) hz4
  · have hkd4 : (kind == 4) = false := by simpa using hkd
    by_cases hkd5 : kind = 5
    · subst hkd5
      go_wp2_with fail
      refine (has_any _ l.ids n _ (sl_of_owns HY.out.i) (by have := HB.out.i; omega)).mono ?_
      rintro e V ⟨rfl, hV⟩
      obtain ⟨q, hq⟩ : ∃ q, hasR l.ids n = q := ⟨_, rfl⟩
      rw [hq]
      have HQ := Lib.hid hq
      have HV := Lib.hid hV
      have HYV := Lib.hid (HY.out.keep hV (Nat.le_refl _))
      have HK6V := Lib.hid (block_below K6.out hV hzA)
      clear hq hV d0 d1 d2 d3 d4 d5 d6 e5 e6 e8 hr2
      cases q with
      | false =>
        have HRES := Lib.hid (spendB_no (key := key) HQ.out)
        obtain ⟨d0, d1, d2, d3, d4, d5, d6, _⟩ := seven_cells (block_below K0.out (HB2.out.trans ((HV.out).mono HB2.out.size)) (by omega))
        have HBU := Lib.hid (HBW.out.trans ((HB2.out.trans ((HV.out).mono HB2.out.size)).mono HBW.out.size))
        have HK4U := Lib.hid (block_below K2.out (HB2.out.trans ((HV.out).mono HB2.out.size)) (by omega))
        have hz4 := (Array.getElem?_eq_some_iff.1 HK4U.out).1
        go_wp2_with fail
        refine (lease_any ⟨x1, x2, x3, x4, ⟨x5, x6, x7⟩, ⟨x8, x9, x10⟩, ⟨x11, x12, x13⟩⟩ l _ (HM.out.keep (HB2.out.trans ((HV.out).mono HB2.out.size)) (Nat.le_refl _)) (HLB.out)).mono ?_
        rintro e U2 ⟨⟨z1, z2, z3, z4, ⟨z5, z6, z7⟩, ⟨z8, z9, z10⟩, ⟨z11, z12, z13⟩⟩, rfl, hzz, hbz⟩
        have HZ := Lib.hid hzz
        have HB4 := Lib.hid hbz
        have hk4 := block_below HK4U.out hbz hz4
        obtain ⟨q0, q1, q2, q3, q4, q5, q6, _⟩ := seven_cells hk4
        have f0 := seven_free hk4 0
        have f1 := seven_free hk4 1
        have f2 := seven_free hk4 2
        have f3 := seven_free hk4 3
        have f4 := seven_free hk4 4
        have f5 := seven_free hk4 5
        have f6 := seven_free hk4 6
        clear hzz hbz hk4 d0 d1 d2 d3 d4 d5 d6
        go_wp2
        refine bodyPost_ret (v := .tuple #[.agg #[.int .i64 z1, .int .i64 z2, .int .i64 z3, .int .i64 z4, .slice z5 z6 z7, .slice z8 z9 z10, .slice z11 z12 z13], .int .i64 14]) (by simp [results, Try.results22, go_sem, *]) rfl (show RetSpO _ _ _ _ from ?_)
        rw [HRES.out]
        exact ret_spent (y := ⟨z1, z2, z3, z4, ⟨z5, z6, z7⟩, ⟨z8, z9, z10⟩, ⟨z11, z12, z13⟩⟩) (p := w.heap.size + 2) HBU.out HB4.out HZ.out (by omega) hz4
      | true =>
        obtain ⟨e5, e6, e8⟩ := KO.out _ (HW2.out _ HV.out)
        obtain ⟨d0, d1, d2, d3, d4, d5, d6, hx9⟩ := seven_cells HK6V.out
        clear hx9
        go_wp2_with fail
        refine (bsearch_any _ l.used n _ (sl_of_owns HYV.out.u) (by have := HB.out.u; omega) HB.out.sort).mono ?_
        rintro e V' ⟨rfl, rfl⟩
        obtain ⟨q2, hq2⟩ : ∃ q2, l.used.contains n = q2 := ⟨_, rfl⟩
        rw [hq2]
        have HQ2 := Lib.hid hq2
        clear hq2
        cases q2 with
        | true =>
          have HRES := Lib.hid (spendB_is (key := key) HQ.out HQ2.out)
          clear d0 d1 d2 d3 d4 d5 d6 e5 e6 e8
          obtain ⟨d0, d1, d2, d3, d4, d5, d6, _⟩ := seven_cells (block_below K0.out (HB2.out.trans ((HV.out).mono HB2.out.size)) (by omega))
          have HBU := Lib.hid (HBW.out.trans ((HB2.out.trans ((HV.out).mono HB2.out.size)).mono HBW.out.size))
          have HK4U := Lib.hid (block_below K2.out (HB2.out.trans ((HV.out).mono HB2.out.size)) (by omega))
          have hz4 := (Array.getElem?_eq_some_iff.1 HK4U.out).1
          go_wp2_with fail
          refine (lease_any ⟨x1, x2, x3, x4, ⟨x5, x6, x7⟩, ⟨x8, x9, x10⟩, ⟨x11, x12, x13⟩⟩ l _ (HM.out.keep (HB2.out.trans ((HV.out).mono HB2.out.size)) (Nat.le_refl _)) (HLB.out)).mono ?_
          rintro e U2 ⟨⟨z1, z2, z3, z4, ⟨z5, z6, z7⟩, ⟨z8, z9, z10⟩, ⟨z11, z12, z13⟩⟩, rfl, hzz, hbz⟩
          have HZ := Lib.hid hzz
          have HB4 := Lib.hid hbz
          have hk4 := block_below HK4U.out hbz hz4
          obtain ⟨q0, q1, q2, q3, q4, q5, q6, _⟩ := seven_cells hk4
          have f0 := seven_free hk4 0
          have f1 := seven_free hk4 1
          have f2 := seven_free hk4 2
          have f3 := seven_free hk4 3
          have f4 := seven_free hk4 4
          have f5 := seven_free hk4 5
          have f6 := seven_free hk4 6
          clear hzz hbz hk4 d0 d1 d2 d3 d4 d5 d6
          go_wp2
          refine bodyPost_ret (v := .tuple #[.agg #[.int .i64 z1, .int .i64 z2, .int .i64 z3, .int .i64 z4, .slice z5 z6 z7, .slice z8 z9 z10, .slice z11 z12 z13], .int .i64 7]) (by simp [results, Try.results22, go_sem, *]) rfl (show RetSpO _ _ _ _ from ?_)
          rw [HRES.out]
          exact ret_spent (y := ⟨z1, z2, z3, z4, ⟨z5, z6, z7⟩, ⟨z8, z9, z10⟩, ⟨z11, z12, z13⟩⟩) (p := w.heap.size + 2) HBU.out HB4.out HZ.out (by omega) hz4
        | false =>
          have HRES := Lib.hid (spendB_ok (key := key) HQ.out HQ2.out)
          have hcp := List.countP_le_length (p := fun x => decide (x < n)) (l := l.used)
          have HCR := Lib.hid (cells_rise l.used n)
          have HLR := Lib.hid (length_rise l.used n)
          have hlu := HB.out.u
          generalize hcc : l.used.countP (fun x => decide (x < n)) = cp at *
          clear hcc
          obtain ⟨V, hVV⟩ : ∃ V, V = V' := ⟨_, rfl⟩
          subst hVV
          have hbA : Below V.heap.size V (V.alloc (.cells #[.int .i64 n] 3)) := (Below.refl _ _).alloc (Nat.le_refl _) _
          have hkA : (V.alloc (.cells #[.int .i64 n] 3)).heap[V.heap.size]? = some (.cells #[.int .i64 n] 3 (0, 0)) := heap_alloc_new _ _
          have HYA := Lib.hid (HYV.out.keep hbA (Nat.le_refl _))
          have HK6A := Lib.hid (block_below HK6V.out hbA (Array.getElem?_eq_some_iff.1 HK6V.out).1)
          have HBA := Lib.hid (HW2.out _ (HV.out.trans (hbA.mono HV.out.size)))
          have hyb : (Value.slice y11 y12 y13).ownBlock ≠ some V.heap.size := fun e => by
            have := (HYV.out.u.lt _ e).2
            omega
          have hsA := HBA.out.size
          go_wp2_with fail
          generalize V.alloc (.cells #[.int .i64 n] 3) = W8 at *
          generalize hv8 : V.heap.size = v8 at *
          clear hv8
          refine (insertIn_any _ l.used.length cp (cellsI l.used) [.int .i64 n] W8 W1.heap.size v8 HYA.out.u (cellsI_oneCell _) (by intro u hu; simp at hu; subst hu; rfl) rfl (by omega) hcp hsA hkA hyb).mono ?_
          rintro e w9 ⟨v', rfl, ho9, hg9, hat9⟩
          rw [HCR.out, ← HLR.out] at ho9
          obtain ⟨ao', cap', rfl, _, _⟩ := owns_shape ho9
          obtain ⟨i1, i2, i3⟩ := LsO.ins (v' := ⟨ao', _, cap'⟩) HYA.out HK6A.out ho9 hg9
          have hb9 : Below W1.heap.size W1 w9 := HBA.out.grown hg9 HBA.out.size (fun g' hg' => (HYA.out.u.lt g' hg').1)
          have hp6 : W1.heap.size ≤ p6 := by have := HP6.out; omega
          have HB9 := Lib.hid (hb9.setCell (p := ⟨p6, 6, none⟩) hp6 (.slice ao' (rise l.used n).length cap'))
          have HI1 := Lib.hid i1
          have HI2 := Lib.hid i2
          clear d0 d1 d2 d3 d4 d5 d6
          obtain ⟨d0, d1, d2, d3, d4, d5, d6, hx9⟩ := seven_cells i3
          have f6 := seven_free i3 6
          simp only [Sv.v] at d0 d1 d2 d3 d4 d5 d6 HI1 HI2
          clear hx9 i1 i2 i3 ho9 hg9 hat9 hb9 hbA hyb
          go_upto_region 19 with fail
          generalize w9.setCell ⟨p6, 6, none⟩ (.slice ao' (rise l.used n).length cap') = W9 at *
          clear d0 d1 d2 d3 d4 d5 d6 f6 e5 e6 e8
          have HLB2 : Hid (LsB ⟨l.dev, l.epoch, l.unt, l.last, l.sl, l.ids, rise l.used n⟩) := Lib.hid ⟨HLB.out.s, HLB.out.i, by show (rise l.used n).length < _; rw [HLR.out]; omega⟩
          obtain ⟨d0, d1, d2, d3, d4, d5, d6, _⟩ := seven_cells (HI2.out)
          have HBU := Lib.hid (HBW.out.trans (HB9.out.mono HBW.out.size))
          have HK4U := Lib.hid (block_below K2.out HB9.out (by omega))
          have hz4 := (Array.getElem?_eq_some_iff.1 HK4U.out).1
          go_wp2_with fail
          refine (lease_any ⟨y1, y2, y3, y4, ⟨y5, y6, y7⟩, ⟨y8, y9, y10⟩, ⟨ao', (rise l.used n).length, cap'⟩⟩ _ _ (HI1.out.m) (HLB2.out)).mono ?_
          rintro e U2 ⟨⟨z1, z2, z3, z4, ⟨z5, z6, z7⟩, ⟨z8, z9, z10⟩, ⟨z11, z12, z13⟩⟩, rfl, hzz, hbz⟩
          have HZ := Lib.hid hzz
          have HB4 := Lib.hid hbz
          have hk4 := block_below HK4U.out hbz hz4
          obtain ⟨q0, q1, q2, q3, q4, q5, q6, _⟩ := seven_cells hk4
          have f0 := seven_free hk4 0
          have f1 := seven_free hk4 1
          have f2 := seven_free hk4 2
          have f3 := seven_free hk4 3
          have f4 := seven_free hk4 4
          have f5 := seven_free hk4 5
          have f6 := seven_free hk4 6
          clear hzz hbz hk4 d0 d1 d2 d3 d4 d5 d6
          go_wp2
          refine bodyPost_ret (v := .tuple #[.agg #[.int .i64 z1, .int .i64 z2, .int .i64 z3, .int .i64 z4, .slice z5 z6 z7, .slice z8 z9 z10, .slice z11 z12 z13], .int .i64 0]) (by simp [results, Try.results22, go_sem, *]) rfl (show RetSpO _ _ _ _ from ?_)
          rw [HRES.out]
          exact ret_spent (y := ⟨z1, z2, z3, z4, ⟨z5, z6, z7⟩, ⟨z8, z9, z10⟩, ⟨z11, z12, z13⟩⟩) (p := w.heap.size + 2) HBU.out HB4.out HZ.out (by omega) hz4
    · have hkd6 : (kind == 5) = false := by simpa using hkd5
      have HRES := Lib.hid (spendS_else (l := l) (key := key) (n := n) hkd hkd5)
      clear hkd hkd5
      go_upto_region 19 with fail
      clear d0 d1 d2 d3 d4 d5 d6 e5 e6 e8
      obtain ⟨d0, d1, d2, d3, d4, d5, d6, _⟩ := seven_cells (K6.out)
      have HBU := Lib.hid (HBW.out.trans (HB2.out.mono HBW.out.size))
      have HK4U := Lib.hid (block_below K2.out HB2.out (by omega))
      have hz4 := (Array.getElem?_eq_some_iff.1 HK4U.out).1
      go_wp2_with fail
      refine (lease_any ⟨y1, y2, y3, y4, ⟨y5, y6, y7⟩, ⟨y8, y9, y10⟩, ⟨y11, y12, y13⟩⟩ l _ (HY.out.m) (HLB.out)).mono ?_
      rintro e U2 ⟨⟨z1, z2, z3, z4, ⟨z5, z6, z7⟩, ⟨z8, z9, z10⟩, ⟨z11, z12, z13⟩⟩, rfl, hzz, hbz⟩
      have HZ := Lib.hid hzz
      have HB4 := Lib.hid hbz
      have hk4 := block_below HK4U.out hbz hz4
      obtain ⟨q0, q1, q2, q3, q4, q5, q6, _⟩ := seven_cells hk4
      have f0 := seven_free hk4 0
      have f1 := seven_free hk4 1
      have f2 := seven_free hk4 2
      have f3 := seven_free hk4 3
      have f4 := seven_free hk4 4
      have f5 := seven_free hk4 5
      have f6 := seven_free hk4 6
      clear hzz hbz hk4 d0 d1 d2 d3 d4 d5 d6
      go_wp2
      refine bodyPost_ret (v := .tuple #[.agg #[.int .i64 z1, .int .i64 z2, .int .i64 z3, .int .i64 z4, .slice z5 z6 z7, .slice z8 z9 z10, .slice z11 z12 z13], .int .i64 0]) (by simp [results, Try.results22, go_sem, *]) rfl (show RetSpO _ _ _ _ from ?_)
      rw [HRES.out]
      exact ret_spent (y := ⟨z1, z2, z3, z4, ⟨z5, z6, z7⟩, ⟨z8, z9, z10⟩, ⟨z11, z12, z13⟩⟩) (p := w.heap.size + 2) HBU.out HB4.out HZ.out (by omega) hz4

theorem spend_any (x : LsC) (l : Ls) (o : Opr) (w : World) (h : LsM w x l) (hB : SpB l o.n) :
    Calls Try.prog 22 #[aLs x, aOp o] w (RetSp w (spendS l o.kind o.key o.n)) :=
  (spend_own x l o w h hB).mono fun _ _ ⟨y, h1, h2, h3⟩ => ⟨y, h1, h2.m, h3⟩

end Go.Proofs.Ytckonmlcgfbojaa
