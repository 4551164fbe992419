/- The walk of Put. -/
import Derived.Test.YtckonmlcgfbojaaLGa
import Derived.Test.YtckonmlcgfbojaaHeld
namespace Go.Proofs.Ytckonmlcgfbojaa
open Go.RowKit

/-- A book of the call's own, and an error. -/
def RetBkE (w : World) (r : Bk × Int) (e : Ending) (w' : World) : Prop := ∃ (x' : BkC), e = .returned (.tuple #[aBk x', .int .i64 r.2]) ∧ BkM w' x' r.1 ∧ Below w.heap.size w w'

theorem LsO.base {w : World} {B B' : Nat} {x : LsC} {l : Ls} (h : LsO w B x l) (hB : B' ≤ B) : LsO w B' x l := ⟨h.dev, h.epoch, h.unt, h.last, owns_base h.s hB, owns_base h.i hB, owns_base h.u hB⟩
theorem BkO.base {w : World} {B B' C : Nat} {x : BkC} {b : Bk} {xs : List LsC} (h : BkO w B C x b xs) (hB : B' ≤ B) : BkO w B' C x b xs :=
  ⟨owns_base h.rc hB, owns_base h.rf hB, owns_base h.rl hB, owns_base h.rb hB, h.cl, h.fl, h.ll, h.bl, h.each⟩
/-- What lies there is the call's own. -/
def RetBkEO (w : World) (r : Bk × Int) (e : Ending) (w' : World) : Prop := ∃ (x' : BkC) (xs : List LsC) (C : Nat), e = .returned (.tuple #[aBk x', .int .i64 r.2]) ∧ BkO w' w.heap.size C x' r.1 xs ∧ w.heap.size ≤ C ∧ Below w.heap.size w w'

def putS (b : Bk) (l : Ls) : Bk × Int := if 0 ≤ atIx b.ls l.dev l.epoch then (⟨b.cs, b.free, b.ls.set (atIx b.ls l.dev l.epoch).toNat l, b.bound⟩, 0) else (b, 2)

theorem owns_curA {w : World} {base : Nat} {e : TypeId} {E g n cap : Nat} {xs : List Value} (h : w.ownsRow base e E (.slice (some ⟨g, 0, none⟩) n cap) n xs) : ∃ cur : Array Value, w.heap[g]? = some (.cells cur e (0, 0)) := by
  obtain ⟨_, hv⟩ := h
  rcases hv with ⟨hv, _⟩ | ⟨q, cp, cur, hv, _, hh, _⟩
  · cases hv
  · injection hv with hv
    injection hv with hv
    injection hv with hv
    subst hv
    exact ⟨cur, hh⟩

/-- The k-th lease of a book is laid anew. -/
theorem BkO.setL {w : World} {B C g n cap : Nat} {x : BkC} {b : Bk} {xs : List LsC} {y : LsC} {l : Ls} (h : BkO w B C x b xs) (hx : x.l = ⟨some ⟨g, 0, none⟩, n, cap⟩) (k : Nat) (hk : k < b.ls.length) (hy : LsO w C y l) :
    BkO (((((((w.setCell ⟨g, k * 7, none⟩ (.int .i64 y.dev)).setCell ⟨g, k * 7 + 1, none⟩ (.int .i64 y.epoch)).setCell ⟨g, k * 7 + 2, none⟩ (.int .i64 y.unt)).setCell ⟨g, k * 7 + 3, none⟩ (.int .i64 y.last)).setCell ⟨g, k * 7 + 4, none⟩ y.s.v).setCell ⟨g, k * 7 + 5, none⟩ y.i.v).setCell ⟨g, k * 7 + 6, none⟩ y.u.v) B C x ⟨b.cs, b.free, b.ls.set k l, b.bound⟩ (xs.set k y) := by
  have hrow := h.rl
  rw [hx] at hrow
  simp only [Sv.v] at hrow
  have hn : n = b.ls.length := by
    obtain ⟨_, _, he, _, _⟩ := owns_shape hrow
    injection he with _ he _
  subst hn
  obtain ⟨cur, hg⟩ := owns_curA hrow
  have hgC : g < C := h.ll g (by rw [hx]; rfl)
  have hoth := fun c (hc : c ≠ g) => set7_other w g c hc (k * 7) (.int .i64 y.dev) (.int .i64 y.epoch) (.int .i64 y.unt) (.int .i64 y.last) y.s.v y.i.v y.u.v
  have hset := owns_set7 hrow k (by rw [h.each.len]; exact hk) y
  refine ⟨owns_ne h.rc hoth (own_ty h.rc hg (by decide)), owns_ne h.rf hoth (own_ty h.rf hg (by decide)), ?_, owns_ne h.rb hoth (own_ty h.rb hg (by decide)), h.cl, h.fl, h.ll, h.bl, ?_⟩
  · rw [hx]; show World.ownsRow _ _ _ _ _ (b.ls.set k l).length _; rw [List.length_set]; exact hset
  · exact All2.set k (h.each.imp (fun _ _ r => r.ne hoth hgC)) (hy.ne hoth hgC)

theorem BkO.cellsL {w : World} {B C : Nat} {x : BkC} {b : Bk} {xs : List LsC} (h : BkO w B C x b xs) (k : Nat) (hk : k < b.ls.length) (hkx : k < xs.length) : ∃ g cap, x.l = ⟨some ⟨g, 0, none⟩, b.ls.length, cap⟩ ∧ b.ls.length ≤ cap ∧ cap ≤ 9223372036854775807 ∧ B ≤ g ∧ g < w.heap.size ∧
    (w.cell? ⟨g, k * 7, none⟩ = some (.int .i64 xs[k].dev) ∧ w.cell? ⟨g, k * 7 + 1, none⟩ = some (.int .i64 xs[k].epoch) ∧ w.cell? ⟨g, k * 7 + 2, none⟩ = some (.int .i64 xs[k].unt) ∧ w.cell? ⟨g, k * 7 + 3, none⟩ = some (.int .i64 xs[k].last) ∧ w.cell? ⟨g, k * 7 + 4, none⟩ = some xs[k].s.v ∧ w.cell? ⟨g, k * 7 + 5, none⟩ = some xs[k].i.v ∧ w.cell? ⟨g, k * 7 + 6, none⟩ = some xs[k].u.v) ∧ (∀ o, w.frozen? ⟨g, o, none⟩ = false) := by
  obtain ⟨g, cap, he⟩ := owns_some h.rl (by omega)
  have hrow := h.rl
  rw [he] at hrow
  obtain ⟨p1, p2, p3, p4, p5, p6, p7⟩ := owns_block hrow
  have hat : ∀ j u, j < 7 → (cLs xs[k])[j]? = some u → w.cell? ⟨g, k * 7 + j, none⟩ = some u := fun j u hj hu => p7 _ _ (by rw [cellsT_at cLs_len _ k hkx j hj]; exact hu)
  refine ⟨g, cap, ?_, p3, p4, p1, p2, ⟨hat 0 _ (by omega) rfl, hat 1 _ (by omega) rfl, hat 2 _ (by omega) rfl, hat 3 _ (by omega) rfl, hat 4 _ (by omega) rfl, hat 5 _ (by omega) rfl, hat 6 _ (by omega) rfl⟩, p6⟩
  obtain ⟨_, _, ⟨c1, c2, c3⟩, _⟩ := x
  injection he with e1 e2 e3
  simp only at e1 e2 e3
  subst e1 e2 e3
  rfl

theorem BkO.keep {w w' : World} {B C : Nat} {x : BkC} {b : Bk} {xs : List LsC} (h : BkO w B C x b xs) (hb : Below w.heap.size w w') : BkO w' B C x b xs :=
  ⟨owns_keep h.rc hb (Nat.le_refl _), owns_keep h.rf hb (Nat.le_refl _), owns_keep h.rl hb (Nat.le_refl _), owns_keep h.rb hb (Nat.le_refl _), h.cl, h.fl, h.ll, h.bl, h.each.imp (fun _ _ r => r.keep hb (Nat.le_refl _))⟩
theorem BkO.cap {w : World} {B C : Nat} {x : BkC} {b : Bk} {xs : List LsC} (h : BkO w B C x b xs) (hC : B ≤ C) (hB : B ≤ w.heap.size) : ∃ C', BkO w B C' x b xs ∧ B ≤ C' ∧ C' ≤ w.heap.size := by
  refine ⟨min C w.heap.size, ⟨h.rc, h.rf, h.rl, h.rb, fun g hg => ?_, fun g hg => ?_, fun g hg => ?_, fun g hg => ?_, h.each.imp (fun _ _ r => ⟨r.dev, r.epoch, r.unt, r.last, owns_base r.s (Nat.min_le_left _ _), owns_base r.i (Nat.min_le_left _ _), owns_base r.u (Nat.min_le_left _ _)⟩)⟩, by omega, Nat.min_le_right _ _⟩
  · have h1 := h.cl g hg; have h2 := (h.rc.lt g hg).2; omega
  · have h1 := h.fl g hg; have h2 := (h.rf.lt g hg).2; omega
  · have h1 := h.ll g hg; have h2 := (h.rl.lt g hg).2; omega
  · have h1 := h.bl g hg; have h2 := (h.rb.lt g hg).2; omega
theorem size_set4 (w : World) (p q r t : Addr) (x y z u : Value) : ((((w.setCell p x).setCell q y).setCell r z).setCell t u).heap.size = w.heap.size := by simp [World.setCell]
theorem alloc3_0 (w : World) (a b c : Obj) : (((w.alloc a).alloc b).alloc c).heap[w.heap.size]? = some a := by rw [Below.heap_alloc _ _ _ (by simp; omega)]; exact alloc_first w a b
theorem alloc3_1 (w : World) (a b c : Obj) : (((w.alloc a).alloc b).alloc c).heap[w.heap.size + 1]? = some b := by rw [Below.heap_alloc _ _ _ (by simp)]; exact alloc_second w a b
theorem alloc3_2 (w : World) (a b c : Obj) : (((w.alloc a).alloc b).alloc c).heap[w.heap.size + 2]? = some c := by
  have h := heap_alloc_new ((w.alloc a).alloc b) c
  simpa using h

set_option maxRecDepth 100000 in
set_option maxHeartbeats 8000000 in
theorem put_own (x : BkC) (b : Bk) (z : LsC) (l : Ls) (w : World) (h : BkM w x b) (hl : BkB b) (hz : LsM w z l) (hlb : LsB l) :
    Calls Try.prog 21 #[aBk x, aLs z] w (RetBkEO w (putS b l)) := by
  obtain ⟨⟨ca, cn, cc⟩, ⟨fa, f_n, fc⟩, ⟨la, ln, lc⟩, ⟨ba, b_n, bc⟩⟩ := x
  obtain ⟨z1, z2, z3, z4, ⟨z5, z6, z7⟩, ⟨z8, z9, z10⟩, ⟨z11, z12, z13⟩⟩ := z
  have hd1 : z1 = l.dev := hz.dev
  have hd2 : z2 = l.epoch := hz.epoch
  subst hd1 hd2
  have hb1 : Below w.heap.size w (((w.alloc (.cells #[.slice ca cn cc, .slice fa f_n fc, .slice la ln lc, .slice ba b_n bc] 32)).alloc (.cells #[.int .i64 l.dev, .int .i64 l.epoch, .int .i64 z3, .int .i64 z4, .slice z5 z6 z7, .slice z8 z9 z10, .slice z11 z12 z13] 45)).alloc (.cells #[.slice none 0 0, .slice none 0 0, .slice none 0 0, .slice none 0 0] 32)) := (((Below.refl _ _).alloc (Nat.le_refl _) _).alloc (by simp) _).alloc (by simp; omega) _
  have HK0 := Lib.hid (alloc3_0 w (.cells #[.slice ca cn cc, .slice fa f_n fc, .slice la ln lc, .slice ba b_n bc] 32) (.cells #[.int .i64 l.dev, .int .i64 l.epoch, .int .i64 z3, .int .i64 z4, .slice z5 z6 z7, .slice z8 z9 z10, .slice z11 z12 z13] 45) (.cells #[.slice none 0 0, .slice none 0 0, .slice none 0 0, .slice none 0 0] 32))
  have HK1 := Lib.hid (alloc3_1 w (.cells #[.slice ca cn cc, .slice fa f_n fc, .slice la ln lc, .slice ba b_n bc] 32) (.cells #[.int .i64 l.dev, .int .i64 l.epoch, .int .i64 z3, .int .i64 z4, .slice z5 z6 z7, .slice z8 z9 z10, .slice z11 z12 z13] 45) (.cells #[.slice none 0 0, .slice none 0 0, .slice none 0 0, .slice none 0 0] 32))
  have HK2 := Lib.hid (alloc3_2 w (.cells #[.slice ca cn cc, .slice fa f_n fc, .slice la ln lc, .slice ba b_n bc] 32) (.cells #[.int .i64 l.dev, .int .i64 l.epoch, .int .i64 z3, .int .i64 z4, .slice z5 z6 z7, .slice z8 z9 z10, .slice z11 z12 z13] 45) (.cells #[.slice none 0 0, .slice none 0 0, .slice none 0 0, .slice none 0 0] 32))
  have hz2 : w.heap.size + 2 < ((((w.alloc (.cells #[.slice ca cn cc, .slice fa f_n fc, .slice la ln lc, .slice ba b_n bc] 32)).alloc (.cells #[.int .i64 l.dev, .int .i64 l.epoch, .int .i64 z3, .int .i64 z4, .slice z5 z6 z7, .slice z8 z9 z10, .slice z11 z12 z13] 45)).alloc (.cells #[.slice none 0 0, .slice none 0 0, .slice none 0 0, .slice none 0 0] 32))).heap.size := by simp
  have HM := Lib.hid (h.keep hb1 (Nat.le_refl _))
  have HZ0 := Lib.hid hz
  have HB := Lib.hid hl
  have HLB := Lib.hid hlb
  have HBW := Lib.hid hb1
  clear hb1 h hz hl hlb
  change Calls Try.prog _ #[.agg #[.slice ca cn cc, .slice fa f_n fc, .slice la ln lc, .slice ba b_n bc], .agg #[.int .i64 l.dev, .int .i64 l.epoch, .int .i64 z3, .int .i64 z4, .slice z5 z6 z7, .slice z8 z9 z10, .slice z11 z12 z13]] w _
  go_enter Try.func21, Try.ntmps21
  go_wp2_with fail
  generalize (((w.alloc (.cells #[.slice ca cn cc, .slice fa f_n fc, .slice la ln lc, .slice ba b_n bc] 32)).alloc (.cells #[.int .i64 l.dev, .int .i64 l.epoch, .int .i64 z3, .int .i64 z4, .slice z5 z6 z7, .slice z8 z9 z10, .slice z11 z12 z13] 45)).alloc (.cells #[.slice none 0 0, .slice none 0 0, .slice none 0 0, .slice none 0 0] 32)) = w3 at *
  refine (ownBk_any ⟨⟨ca, cn, cc⟩, ⟨fa, f_n, fc⟩, ⟨la, ln, lc⟩, ⟨ba, b_n, bc⟩⟩ b _ HM.out HB.out).mono ?_
  rintro e w4 ⟨⟨⟨da, dn, dc⟩, ⟨ea, e_n, ec⟩, ⟨ma, mn, mc⟩, ⟨na, n_n, nc⟩⟩, xs, C0, rfl, ho0, hC0, hb4⟩
  obtain ⟨C, ho, hC, hCw4⟩ := ho0.cap hC0 hb4.size
  clear ho0 hC0
  have hzz : w.heap.size < w3.heap.size := by omega
  have hk0 := block_below HK0.out hb4 (by omega)
  have hk1 := block_below HK1.out hb4 (by omega)
  have hk2 := block_below HK2.out hb4 (by omega)
  obtain ⟨d0, d1, d2, d3, _⟩ := four_cells hk0
  have f0 := four_free hk0 0
  have f1 := four_free hk0 1
  have f2 := four_free hk0 2
  have f3 := four_free hk0 3
  obtain ⟨n0, n1, n2, n3, n4, n5, n6, _⟩ := seven_cells hk1
  have HO := Lib.hid ((((ho.put hC ⟨w.heap.size, 0, none⟩ hzz (.slice da dn dc)).put hC ⟨w.heap.size, 1, none⟩ hzz (.slice ea e_n ec)).put hC ⟨w.heap.size, 2, none⟩ hzz (.slice ma mn mc)).put hC ⟨w.heap.size, 3, none⟩ hzz (.slice na n_n nc))
  have HK0' := Lib.hid (set_four hk0 (.slice da dn dc) (.slice ea e_n ec) (.slice ma mn mc) (.slice na n_n nc))
  have HK1' := Lib.hid ((set_other4 w4 w.heap.size (w.heap.size + 1) (by omega) (.slice da dn dc) (.slice ea e_n ec) (.slice ma mn mc) (.slice na n_n nc) 0 1 2 3).trans hk1)
  have HK2' := Lib.hid ((set_other4 w4 w.heap.size (w.heap.size + 2) (by omega) (.slice da dn dc) (.slice ea e_n ec) (.slice ma mn mc) (.slice na n_n nc) 0 1 2 3).trans hk2)
  have HCW5 : Hid (C ≤ ((((w4.setCell ⟨w.heap.size, 0, none⟩ (.slice da dn dc)).setCell ⟨w.heap.size, 1, none⟩ (.slice ea e_n ec)).setCell ⟨w.heap.size, 2, none⟩ (.slice ma mn mc)).setCell ⟨w.heap.size, 3, none⟩ (.slice na n_n nc)).heap.size) := Lib.hid (by rw [size_set4]; exact hCw4)
  clear hCw4
  have hbw4 := HBW.out.trans (hb4.mono HBW.out.size)
  have HBW5 := Lib.hid ((((hbw4.setCell (p := ⟨w.heap.size, 0, none⟩) (Nat.le_refl _) (.slice da dn dc)).setCell (p := ⟨w.heap.size, 1, none⟩) (Nat.le_refl _) (.slice ea e_n ec)).setCell (p := ⟨w.heap.size, 2, none⟩) (Nat.le_refl _) (.slice ma mn mc)).setCell (p := ⟨w.heap.size, 3, none⟩) (Nat.le_refl _) (.slice na n_n nc))
  have HZ5 : Hid (LsM ((((w4.setCell ⟨w.heap.size, 0, none⟩ (.slice da dn dc)).setCell ⟨w.heap.size, 1, none⟩ (.slice ea e_n ec)).setCell ⟨w.heap.size, 2, none⟩ (.slice ma mn mc)).setCell ⟨w.heap.size, 3, none⟩ (.slice na n_n nc)) ⟨l.dev, l.epoch, z3, z4, ⟨z5, z6, z7⟩, ⟨z8, z9, z10⟩, ⟨z11, z12, z13⟩⟩ l) := Lib.hid (HZ0.out.keep HBW5.out (Nat.le_refl _))
  clear ho hk0 hk1 hk2 hb4 hbw4 HK0 HK1 HK2 HM HBW
  go_wp2_with fail
  generalize ((((w4.setCell ⟨w.heap.size, 0, none⟩ (.slice da dn dc)).setCell ⟨w.heap.size, 1, none⟩ (.slice ea e_n ec)).setCell ⟨w.heap.size, 2, none⟩ (.slice ma mn mc)).setCell ⟨w.heap.size, 3, none⟩ (.slice na n_n nc)) = w5 at *
  refine (at_any ⟨⟨da, dn, dc⟩, ⟨ea, e_n, ec⟩, ⟨ma, mn, mc⟩, ⟨na, n_n, nc⟩⟩ b.ls l.dev l.epoch _ HO.out.m.l).mono ?_
  rintro e w6 ⟨rfl, hb6⟩
  have hz5 : w.heap.size + 2 < w5.heap.size := (Array.getElem?_eq_some_iff.1 HK2'.out).1
  have HCW6 : Hid (C ≤ w6.heap.size) := Lib.hid (Nat.le_trans HCW5.out hb6.size)
  have HO6 : Hid (BkO w6 w3.heap.size C ⟨⟨da, dn, dc⟩, ⟨ea, e_n, ec⟩, ⟨ma, mn, mc⟩, ⟨na, n_n, nc⟩⟩ b xs) := Lib.hid (HO.out.keep hb6)
  have HQ0 := Lib.hid (block_below HK0'.out hb6 (by omega))
  have HQ1 := Lib.hid (block_below HK1'.out hb6 (by omega))
  have HQ2 := Lib.hid (block_below HK2'.out hb6 (by omega))
  have HBW6 := Lib.hid (HBW5.out.trans (hb6.mono HBW5.out.size))
  have HZ6 := Lib.hid (HZ0.out.keep HBW6.out (Nat.le_refl _))
  have hz6 : w.heap.size + 2 < w6.heap.size := (Array.getElem?_eq_some_iff.1 HQ2.out).1
  clear hb6 HO HK0' HK1' HK2' HBW5 d0 d1 d2 d3 f0 f1 f2 f3 n0 n1 n2 n3 n4 n5 n6 HZ5
  obtain ⟨d0, d1, d2, d3, _⟩ := four_cells HQ0.out
  obtain ⟨e0, e1, e2, e3, _⟩ := four_cells HQ2.out
  have f0 := four_free HQ2.out 0
  have f1 := four_free HQ2.out 1
  have f2 := four_free HQ2.out 2
  have f3 := four_free HQ2.out 3
  rcases idxS_spec (fun c : Ls => decide (c.dev = l.dev) && decide (c.epoch = l.epoch)) b.ls with ⟨hi, _⟩ | ⟨k, hk, hi, _, _⟩
  · have HF : Hid (putS b l = (b, 2)) := by show _ = _; unfold putS atIx; simp only [hi]; rfl
    rw [show atIx b.ls l.dev l.epoch = -1 from hi]
    clear hi
    go_wp2
    refine bodyPost_ret (v := .tuple #[.agg #[.slice da dn dc, .slice ea e_n ec, .slice ma mn mc, .slice na n_n nc], .int .i64 2]) (by simp [results, Try.results21, go_sem, *]) rfl (show RetBkEO _ _ _ _ from ?_)
    refine ⟨⟨⟨da, dn, dc⟩, ⟨ea, e_n, ec⟩, ⟨ma, mn, mc⟩, ⟨na, n_n, nc⟩⟩, xs, C, by rw [HF.out], ?_, by omega, ?_⟩
    · rw [HF.out]
      exact BkO.base ((((HO6.out.put hC ⟨w.heap.size + 2, 0, none⟩ hz2 _).put hC ⟨w.heap.size + 2, 1, none⟩ hz2 _).put hC ⟨w.heap.size + 2, 2, none⟩ hz2 _).put hC ⟨w.heap.size + 2, 3, none⟩ hz2 _) (show w.heap.size ≤ w3.heap.size by omega)
    · exact (((HBW6.out.setCell (by simp; omega) _).setCell (by simp; omega) _).setCell (by simp; omega) _).setCell (by simp; omega) _
  · rw [show atIx b.ls l.dev l.epoch = k from hi]
    have HF : Hid (putS b l = (⟨b.cs, b.free, b.ls.set k l, b.bound⟩, 0)) := by
      show _ = _
      unfold putS atIx
      simp only [hi]
      rw [if_pos (by omega)]
      simp
    have hkx : k < xs.length := by rw [HO6.out.each.len]; exact hk
    have hnl := HB.out.nl
    have klt : (k : Int) < b.ls.length := by omega
    obtain ⟨g, cap, hxl, hcap, hcm, hBg, hgs, _, _⟩ := HO6.out.cellsL k hk hkx
    injection hxl with hx1 hx2 hx3
    subst hx1 hx2 hx3
    clear hi d0 d1 d2 d3 e0 e1 e2 e3 f0 f1 f2 f3
    go_upto_region 5 with fail
    have hS0 : Below w6.heap.size w6 w6.drew := (Below.refl _ _).drew
    refine wp_region_T 6 (fun w' => Below w6.heap.size w6 w') (by kernel_rfl) ?_
    refine anyT_take (i := 0) (v := .pointer (some ⟨w.heap.size, 2, none⟩)) rfl rfl (by kernel_rfl) (by kernel_rfl) (by kernel_rfl) (by kernel_rfl) (by kernel_rfl) (by decide) (fun _ _ _ h => h) (.inl ⟨rfl, fun w' hw => ?_⟩) hS0 ?_
    · go_simp
    refine anyT_take (i := 1) (v := .slice (some ⟨g, 0, none⟩) b.ls.length mc) rfl rfl (by kernel_rfl) (by kernel_rfl) (by kernel_rfl) (by kernel_rfl) (by kernel_rfl) (by decide) (fun _ _ _ h => h) (.inl ⟨rfl, fun w' hw => ?_⟩) hS0 ?_
    · obtain ⟨_, _, c2, _, _⟩ := four_cells (block_below HQ0.out hw (by omega))
      go_simp
    refine anyT_take (i := 2) (v := .int .i64 k) rfl rfl (by kernel_rfl) (by kernel_rfl) (by kernel_rfl) (by kernel_rfl) (by kernel_rfl) (by decide) (fun _ _ _ h => h) (.inl ⟨rfl, fun w' hw => ?_⟩) hS0 ?_
    · go_simp
    refine anyT_take (i := 3) (v := .agg #[.int .i64 l.dev, .int .i64 l.epoch, .int .i64 z3, .int .i64 z4, .slice z5 z6 z7, .slice z8 z9 z10, .slice z11 z12 z13]) rfl rfl (by kernel_rfl) (by kernel_rfl) (by kernel_rfl) (by kernel_rfl) (by kernel_rfl) (by decide) (fun _ _ _ h => h) (.inl ⟨rfl, fun w' hw => ?_⟩) hS0 ?_
    · obtain ⟨c0, c1, c2, c3, c4, c5, c6, _⟩ := seven_cells (block_below HQ1.out hw (by omega))
      go_simp
    refine anyT_one (i := 4) (by kernel_rfl) rfl rfl ?_
    go_simp
    refine (lease_any ⟨l.dev, l.epoch, z3, z4, ⟨z5, z6, z7⟩, ⟨z8, z9, z10⟩, ⟨z11, z12, z13⟩⟩ l _ (HZ6.out.keep (Below.refl _ _).drew (Nat.le_refl _)) HLB.out).mono ?_
    rintro e w8 ⟨⟨y1, y2, y3, y4, ⟨y5, y6, y7⟩, ⟨y8, y9, y10⟩, ⟨y11, y12, y13⟩⟩, rfl, hy, hb8⟩
    have hb8' : Below w6.heap.size w6 w8 := (Below.refl w6.heap.size w6).drew.trans hb8
    refine ⟨hb8', ?_⟩
    have HO8 := Lib.hid (HO6.out.keep hb8')
    obtain ⟨g', cap', hxl', _, _, _, hgs8, ⟨c0, c1, c2, c3, c4, c5, c6⟩, hfz⟩ := HO8.out.cellsL k hk hkx
    injection hxl' with hx1 _ _
    injection hx1 with hx1
    injection hx1 with hx1 _ _
    subst hx1
    have hCw : C ≤ w6.drew.heap.size := HCW6.out
    have hy2 : LsO w8 C ⟨y1, y2, y3, y4, ⟨y5, y6, y7⟩, ⟨y8, y9, y10⟩, ⟨y11, y12, y13⟩⟩ l := ⟨hy.dev, hy.epoch, hy.unt, hy.last, owns_base hy.s hCw, owns_base hy.i hCw, owns_base hy.u hCw⟩
    have hst := HO8.out.setL (y := ⟨y1, y2, y3, y4, ⟨y5, y6, y7⟩, ⟨y8, y9, y10⟩, ⟨y11, y12, y13⟩⟩) rfl k hk hy2
    simp only [Sv.v] at hst
    have HST : Hid (BkO (((((((w8.setCell ⟨g, k * 7, none⟩ (.int .i64 y1)).setCell ⟨g, k * 7 + 1, none⟩ (.int .i64 y2)).setCell ⟨g, k * 7 + 2, none⟩ (.int .i64 y3)).setCell ⟨g, k * 7 + 3, none⟩ (.int .i64 y4)).setCell ⟨g, k * 7 + 4, none⟩ (.slice y5 y6 y7)).setCell ⟨g, k * 7 + 5, none⟩ (.slice y8 y9 y10)).setCell ⟨g, k * 7 + 6, none⟩ (.slice y11 y12 y13)) w3.heap.size C ⟨⟨da, dn, dc⟩, ⟨ea, e_n, ec⟩, ⟨some ⟨g, 0, none⟩, b.ls.length, mc⟩, ⟨na, n_n, nc⟩⟩ ⟨b.cs, b.free, b.ls.set k l, b.bound⟩ (xs.set k ⟨y1, y2, y3, y4, ⟨y5, y6, y7⟩, ⟨y8, y9, y10⟩, ⟨y11, y12, y13⟩⟩)) := Lib.hid hst
    have hB0 : w.heap.size ≤ g := by omega
    have hbw8 := HBW6.out.trans (hb8'.mono HBW6.out.size)
    have HBW9 : Hid (Below w.heap.size w (((((((w8.setCell ⟨g, k * 7, none⟩ (.int .i64 y1)).setCell ⟨g, k * 7 + 1, none⟩ (.int .i64 y2)).setCell ⟨g, k * 7 + 2, none⟩ (.int .i64 y3)).setCell ⟨g, k * 7 + 3, none⟩ (.int .i64 y4)).setCell ⟨g, k * 7 + 4, none⟩ (.slice y5 y6 y7)).setCell ⟨g, k * 7 + 5, none⟩ (.slice y8 y9 y10)).setCell ⟨g, k * 7 + 6, none⟩ (.slice y11 y12 y13))) := Lib.hid (((((((hbw8.setCell hB0 _).setCell hB0 _).setCell hB0 _).setCell hB0 _).setCell hB0 _).setCell hB0 _).setCell hB0 _)
    have hoth : ∀ c, c ≠ g → ((((((((w8.setCell ⟨g, k * 7, none⟩ (.int .i64 y1)).setCell ⟨g, k * 7 + 1, none⟩ (.int .i64 y2)).setCell ⟨g, k * 7 + 2, none⟩ (.int .i64 y3)).setCell ⟨g, k * 7 + 3, none⟩ (.int .i64 y4)).setCell ⟨g, k * 7 + 4, none⟩ (.slice y5 y6 y7)).setCell ⟨g, k * 7 + 5, none⟩ (.slice y8 y9 y10)).setCell ⟨g, k * 7 + 6, none⟩ (.slice y11 y12 y13))).heap[c]? = w8.heap[c]? := fun c hc => set7_other w8 g c hc (k * 7) _ _ _ _ _ _ _
    have HQ0' := Lib.hid ((hoth w.heap.size (by omega)).trans (block_below HQ0.out hb8' (by omega)))
    have HQ2' := Lib.hid ((hoth (w.heap.size + 2) (by omega)).trans (block_below HQ2.out hb8' (by omega)))
    have f0 := hfz (k * 7)
    have f1 := hfz (k * 7 + 1)
    have f2 := hfz (k * 7 + 2)
    have f3 := hfz (k * 7 + 3)
    have f4 := hfz (k * 7 + 4)
    have f5 := hfz (k * 7 + 5)
    have f6 := hfz (k * 7 + 6)
    clear hfz hy hy2 hst hb8 hbw8 hoth HQ0 HQ1 HQ2 HO6 HO8
    generalize xs[k] = t at *
    obtain ⟨t1, t2, t3, t4, ⟨t5, t6, t7⟩, ⟨t8, t9, t10⟩, ⟨t11, t12, t13⟩⟩ := t
    simp only [Sv.v] at c4 c5 c6
    refine anyT_one (i := 5) (by kernel_rfl) rfl rfl ?_
    go_simp
    refine anyT_one (i := 6) (by kernel_rfl) rfl rfl ?_
    go_simp
    refine anyT_done (by kernel_rfl) ?_
    generalize (((((((w8.setCell ⟨g, k * 7, none⟩ (.int .i64 y1)).setCell ⟨g, k * 7 + 1, none⟩ (.int .i64 y2)).setCell ⟨g, k * 7 + 2, none⟩ (.int .i64 y3)).setCell ⟨g, k * 7 + 3, none⟩ (.int .i64 y4)).setCell ⟨g, k * 7 + 4, none⟩ (.slice y5 y6 y7)).setCell ⟨g, k * 7 + 5, none⟩ (.slice y8 y9 y10)).setCell ⟨g, k * 7 + 6, none⟩ (.slice y11 y12 y13)) = w9 at *
    clear c0 c1 c2 c3 c4 c5 c6 f0 f1 f2 f3 f4 f5 f6
    obtain ⟨d0, d1, d2, d3, _⟩ := four_cells HQ0'.out
    obtain ⟨e0, e1, e2, e3, _⟩ := four_cells HQ2'.out
    have f0 := four_free HQ2'.out 0
    have f1 := four_free HQ2'.out 1
    have f2 := four_free HQ2'.out 2
    have f3 := four_free HQ2'.out 3
    try simp only [Sv.v] at d0 d1 d2 d3
    go_wp2
    refine bodyPost_ret (v := .tuple #[.agg #[.slice da dn dc, .slice ea e_n ec, .slice (some ⟨g, 0, none⟩) b.ls.length mc, .slice na n_n nc], .int .i64 0]) (by simp [results, Try.results21, go_sem, *]) rfl (show RetBkEO _ _ _ _ from ?_)
    refine ⟨⟨⟨da, dn, dc⟩, ⟨ea, e_n, ec⟩, ⟨some ⟨g, 0, none⟩, b.ls.length, mc⟩, ⟨na, n_n, nc⟩⟩, xs.set k ⟨y1, y2, y3, y4, ⟨y5, y6, y7⟩, ⟨y8, y9, y10⟩, ⟨y11, y12, y13⟩⟩, C, by rw [HF.out], ?_, by omega, ?_⟩
    · rw [HF.out]
      exact BkO.base ((((HST.out.put hC ⟨w.heap.size + 2, 0, none⟩ hz2 _).put hC ⟨w.heap.size + 2, 1, none⟩ hz2 _).put hC ⟨w.heap.size + 2, 2, none⟩ hz2 _).put hC ⟨w.heap.size + 2, 3, none⟩ hz2 _) (show w.heap.size ≤ w3.heap.size by omega)
    · exact (((HBW9.out.setCell (by simp; omega) _).setCell (by simp; omega) _).setCell (by simp; omega) _).setCell (by simp; omega) _

theorem put_any (x : BkC) (b : Bk) (z : LsC) (l : Ls) (w : World) (h : BkM w x b) (hl : BkB b) (hz : LsM w z l) (hlb : LsB l) :
    Calls Try.prog 21 #[aBk x, aLs z] w (RetBkE w (putS b l)) :=
  (put_own x b z l w h hl hz hlb).mono fun _ _ ⟨x', _, _, h1, h2, _, h4⟩ => ⟨x', h1, h2.m, h4⟩

end Go.Proofs.Ytckonmlcgfbojaa
