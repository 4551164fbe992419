/- The walks of Begin; Grant told whole. -/
import Derived.Test.YtckonmlcgfbojaaLGi
import Derived.Test.YtckonmlcgfbojaaLSn
import Derived.Test.YtckonmlcgfbojaaLLa
namespace Go.Proofs.Ytckonmlcgfbojaa
open Go.RowKit

theorem grant_own (x : BkC) (b : Bk) (dev ep un : Int) (v : Value) (ws : List Wn) (w : World) (h : BkM w x b) (hG : GrB b) (hv : SlWn w v ws) :
    Calls Try.prog 17 #[aBk x, .int .i64 dev, .int .i64 ep, .int .i64 un, v] w (RetGrO w (grantS b dev ep un ws)) := by
  cases hA : argOk dev ep un ws.length with
  | false => exact grant_arg x b dev ep un v ws w h hG hv hA
  | true => exact grant_more x b dev ep un v ws w h hG hv hA

theorem grant_any (x : BkC) (b : Bk) (dev ep un : Int) (v : Value) (ws : List Wn) (w : World) (h : BkM w x b) (hG : GrB b) (hv : SlWn w v ws) :
    Calls Try.prog 17 #[aBk x, .int .i64 dev, .int .i64 ep, .int .i64 un, v] w (RetGr w (grantS b dev ep un ws)) :=
  (grant_own x b dev ep un v ws w h hG hv).mono fun _ _ h => h.weak

def isSl : Value → Bool
  | .slice _ _ _ => true
  | _ => false
/-- What reads reads on where a block was turned that holds heads of slices alone. -/
theorem Sl.other {w w' : World} {E : Nat} {v : Value} {n g : Nat} {cs : List Value} {cur : Array Value} {t : TypeId} {z : Nat × Nat} (h : Sl w E v n cs) (hoth : ∀ c, c ≠ g → w'.heap[c]? = w.heap[c]?) (hsz : w.heap.size ≤ w'.heap.size) (hg : w.heap[g]? = some (.cells cur t z))
    (hc : cs.all (fun c => !isSl c) = true) (hd : cur.toList.all isSl = true) : Sl w' E v n cs := by
  obtain ⟨h0, ao, cap, h1, h2, h3, h4, h5⟩ := h
  refine ⟨h0, ao, cap, h1, h2, h3, h4, fun j u hu => ?_⟩
  obtain ⟨b, off, g1, g2, g3⟩ := h5 j u hu
  refine ⟨b, off, g1, Nat.lt_of_lt_of_le g2 hsz, ?_⟩
  by_cases hb : b = g
  · subst hb
    simp only [World.cell?, hg] at g3
    have hm : u ∈ cur.toList := by
      obtain ⟨hlt, he⟩ := Array.getElem?_eq_some_iff.1 (by simpa using g3)
      rw [← he]
      simp
    have e1 := List.all_eq_true.1 hc u (List.mem_of_getElem? hu)
    have e2 := List.all_eq_true.1 hd u hm
    rw [e2] at e1
    exact absurd e1 (by decide)
  · simp only [World.cell?, hoth b hb] at g3 ⊢
    exact g3
theorem sl_nil_of {w w' : World} {E : Nat} {v : Value} (h : Sl w E v 0 []) : Sl w' E v 0 [] := by
  obtain ⟨h0, ao, cap, h1, h2, h3, h4, h5⟩ := h
  exact ⟨h0, ao, cap, h1, h2, h3, h4, fun j u hu => by simp at hu⟩

theorem bkM_over {w w' : World} {g : Nat} {x : BkC} {b : Bk} {cur : Array Value} {t : TypeId} {z : Nat × Nat} (h : BkM w x b) (hl : b.ls = []) (hb : b.bound = []) (hoth : ∀ c, c ≠ g → w'.heap[c]? = w.heap[c]?) (hsz : w.heap.size ≤ w'.heap.size) (hg : w.heap[g]? = some (.cells cur t z)) (hd : cur.toList.all isSl = true)
    (hc : (cellsT cCt b.cs).all (fun c => !isSl c) = true) (hf : (cellsR b.free).all (fun c => !isSl c) = true) : BkM w' x b := by
  obtain ⟨h1, h2, ⟨xs, h3, h4⟩, h5⟩ := h
  obtain ⟨b1, b2, b3, b4⟩ := b
  simp only at hl hb hc hf
  subst hl hb
  have h6 := h4.len
  obtain rfl : xs = [] := List.eq_nil_of_length_eq_zero h6
  exact ⟨Sl.other h1 hoth hsz hg hc hd, Sl.other h2 hoth hsz hg hf hd, ⟨[], sl_nil_of h3, trivial⟩, sl_nil_of h5⟩
def aCt0 : Ct := ⟨⟨#[97]⟩, 0, 0, 20, 10, 0, 0⟩
def bCt0 : Ct := ⟨⟨#[98]⟩, 1, -30, 30, 0, 0, 0⟩
/-- The book that Begin gives. -/
def begBk : Bk := ⟨[⟨⟨#[97]⟩, 0, 0, 20, 10, 10, 10⟩, ⟨⟨#[98]⟩, 1, -30, 30, 0, 30, 30⟩], [(0, 40)], [], []⟩
theorem begin_new : newS [aCt0, bCt0] 40 = (begBk, 0) := by decide +kernel
def RetBkM (w : World) (b : Bk) (e : Ending) (w' : World) : Prop := ∃ x : BkC, e = .returned (aBk x) ∧ BkM w' x b ∧ Below w.heap.size w w'
theorem small_one (a b : Int) (h0 : 0 ≤ a) (h1 : a < b) (h2 : b ≤ 1073741824) : Small [(a, b)] := fun r hr => by
  simp at hr; subst hr; exact ⟨h0, h1, h2⟩
theorem begGrB : GrB begBk := ⟨by decide, by decide, by decide, by decide, fun l hl => by simp [begBk] at hl, small_one 0 40 (by decide) (by decide) (by decide), fun c hc => by
  simp only [begBk, List.mem_cons, List.not_mem_nil, or_false] at hc
  rcases hc with rfl | rfl <;> decide⟩

theorem begin_end {w w2 : World} {x : BkC} (h : BkM w2 x begBk) (hb : Below w.heap.size w w2) (hz : w.heap.size < w2.heap.size) (hk : w2.heap[w.heap.size]? = some (.cells #[.slice none 0 0, .slice none 0 0, .slice none 0 0, .slice none 0 0] 32 (0, 0))) (o : Obj) :
    RetBkM w begBk (.returned (aBk x)) (((((w2.setCell ⟨w.heap.size, 0, none⟩ x.c.v).setCell ⟨w.heap.size, 1, none⟩ x.f.v).setCell ⟨w.heap.size, 2, none⟩ x.l.v).setCell ⟨w.heap.size, 3, none⟩ x.b.v).alloc o) := by
  have hm := bkM_over (w' := ((((w2.setCell ⟨w.heap.size, 0, none⟩ x.c.v).setCell ⟨w.heap.size, 1, none⟩ x.f.v).setCell ⟨w.heap.size, 2, none⟩ x.l.v).setCell ⟨w.heap.size, 3, none⟩ x.b.v)) h rfl rfl (fun c hc => set_other4 _ w.heap.size c (fun e => hc e.symm) _ _ _ _ 0 1 2 3) (by rw [size_set4]; exact Nat.le_refl _) hk (by rfl) (by rfl) (by rfl)
  refine ⟨x, rfl, hm.keep ((Below.refl _ _).alloc (Nat.le_refl _) _) (Nat.le_refl _), ?_⟩
  exact ((((hb.setCell (by simp) _).setCell (by simp) _).setCell (by simp) _).setCell (by simp) _).alloc (by rw [size_set4]; exact Nat.le_of_lt hz) _

set_option maxRecDepth 100000 in
set_option maxHeartbeats 1000000 in
theorem begin_any (w : World) : Calls Try.prog 15 #[] w (RetBkM w begBk) := by
  obtain ⟨W1, hW1, hk1, hb1, hz1⟩ : ∃ W1, w.alloc (.cells #[.slice none 0 0, .slice none 0 0, .slice none 0 0, .slice none 0 0] 32) = W1 ∧ W1.heap[w.heap.size]? = some (.cells #[.slice none 0 0, .slice none 0 0, .slice none 0 0, .slice none 0 0] 32 (0, 0)) ∧ Below w.heap.size w W1 ∧ W1.heap.size = w.heap.size + 1 := ⟨_, rfl, heap_alloc_new _ _, (Below.refl _ _).alloc (Nat.le_refl _) _, by simp⟩
  have HW1 := Lib.hid hW1
  have HZ1 := Lib.hid hz1
  have HK1 := Lib.hid hk1
  clear hW1 hz1 hk1
  have hbA : Below W1.heap.size W1 (W1.alloc (.cells #[.string ⟨#[97]⟩, .int .i64 0, .int .i64 0, .int .i64 20, .int .i64 10, .int .i64 0, .int .i64 0, .string ⟨#[98]⟩, .int .i64 1, .int .i64 (-30), .int .i64 30, .int .i64 0, .int .i64 0, .int .i64 0] 25)) := (Below.refl _ _).alloc (Nat.le_refl _) _
  have HS : Hid (SlCt (W1.alloc (.cells #[.string ⟨#[97]⟩, .int .i64 0, .int .i64 0, .int .i64 20, .int .i64 10, .int .i64 0, .int .i64 0, .string ⟨#[98]⟩, .int .i64 1, .int .i64 (-30), .int .i64 30, .int .i64 0, .int .i64 0, .int .i64 0] 25)) (.slice (some ⟨W1.heap.size, 0, none⟩) 2 2) [aCt0, bCt0]) :=
    Lib.hid (sl_of_owns (owns_lit W1 W1.heap.size W1.heap.size 25 7 #[.string ⟨#[97]⟩, .int .i64 0, .int .i64 0, .int .i64 20, .int .i64 10, .int .i64 0, .int .i64 0, .string ⟨#[98]⟩, .int .i64 1, .int .i64 (-30), .int .i64 30, .int .i64 0, .int .i64 0, .int .i64 0] 2 rfl (Nat.le_refl _) (by omega) rfl))
  go_enter Try.func15, Try.ntmps15
  go_upto_region 1 with fail
  rw [HW1.out]
  go_wp2_with fail
  refine (rnew_any _ [aCt0, bCt0] 40 _ HS.out (by intro c hc; simp at hc; rcases hc with rfl | rfl <;> (unfold maxLen; decide))).mono ?_
  rw [begin_new]
  rintro e w2 ⟨⟨⟨ca, cn, cc⟩, ⟨fa, fn, fc⟩, ⟨la, ln, lc⟩, ⟨ba, bn, bc⟩⟩, rfl, hm, hb2⟩
  have hb12 := hbA.trans (hb2.mono hbA.size)
  have hzz : w.heap.size < W1.heap.size := by have := HZ1.out; omega
  have hk2 := block_below HK1.out hb12 hzz
  obtain ⟨d0, d1, d2, d3, _⟩ := four_cells hk2
  have f0 := four_free hk2 0
  have f1 := four_free hk2 1
  have f2 := four_free hk2 2
  have f3 := four_free hk2 3
  have hbw := hb1.trans (hb12.mono hb1.size)
  have HBW := Lib.hid hbw
  have HM := Lib.hid hm
  have hz2 := hbw.size
  have HK9 := Lib.hid hk2
  have hz9 := (Array.getElem?_eq_some_iff.1 hk2).1
  clear HS hbA hb2 hb12 hk2 hm hbw hb1
  go_wp2
  refine bodyPost_ret (v := .agg #[.slice ca cn cc, .slice fa fn fc, .slice la ln lc, .slice ba bn bc]) (by simp [results, Try.results15, go_sem, *]) rfl (show RetBkM _ _ _ _ from ?_)
  exact begin_end (x := ⟨⟨ca, cn, cc⟩, ⟨fa, fn, fc⟩, ⟨la, ln, lc⟩, ⟨ba, bn, bc⟩⟩) HM.out HBW.out hz9 HK9.out _

end Go.Proofs.Ytckonmlcgfbojaa
