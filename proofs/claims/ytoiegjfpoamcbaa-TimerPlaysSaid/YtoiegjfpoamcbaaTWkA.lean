/- The walks of rows' methods. -/
import Derived.Test.YtoiegjfpoamcbaaTRg
import Derived.Test.YtoiegjfpoamcbaaCmp
namespace Go.Proofs.Ytoiegjfpoamcbaa
open Go.RowKit

theorem setCell_block_other (w : World) (p : Addr) (u : Value) (b : Nat) (h : b ≠ p.block) : (w.setCell p u).heap[b]? = w.heap[b]? := by
  simp [World.setCell, Array.getElem?_modify]; omega

abbrev TmT (w : World) (B T : Nat) (v : Value) (L : List Rw) : Prop := Tm w B T 41 52 v L

theorem len_any (w : World) (B T : Nat) (v : Value) (L : List Rw) (h : TmT w B T v L) :
    Calls Try.prog 17 #[.pointer (some ⟨T, 0, none⟩)] w fun e w' => e = .returned (.int .i64 L.length) ∧ w = w' := by
  obtain ⟨c, _⟩ := h.cell
  obtain ⟨ao, cap, rfl, _, _⟩ := owns_shape h.row
  go_enter Try.func17, Try.ntmps17
  go_wp2
  go_ret
  exact ⟨rfl, rfl⟩

/-- Cells of a row. -/
theorem Tm.two {w : World} {B T : Nat} {ty el : TypeId} {v : Value} {L : List Rw} (h : Tm w B T ty el v L) (i : Nat) (hi : i < L.length) :
    ∃ g cap, v = .slice (some ⟨g, 0, none⟩) L.length cap ∧ L.length ≤ cap ∧ cap ≤ 9223372036854775807 ∧ g < w.heap.size ∧ g ≠ T ∧ w.cell? ⟨g, i * 2, none⟩ = some (.int .i64 L[i].1) ∧ w.cell? ⟨g, i * 2 + 1, none⟩ = some (.int .i64 L[i].2) ∧ (∀ o, w.frozen? ⟨g, o, none⟩ = false) := by
  obtain ⟨g, cap, rfl⟩ := owns_some h.row (by omega)
  obtain ⟨_, h2, h3, h4, _, h6, h7⟩ := owns_block h.row
  exact ⟨g, cap, rfl, h3, h4, h2, h.apart g rfl, h7 _ _ (cellsW_at L i hi).1, h7 _ _ (cellsW_at L i hi).2, h6⟩

theorem alloc_first (w : World) (a b : Obj) : ((w.alloc a).alloc b).heap[w.heap.size]? = some a := by rw [Below.heap_alloc _ _ _ (by simp), heap_alloc_new]
theorem alloc_second (w : World) (a b : Obj) : ((w.alloc a).alloc b).heap[w.heap.size + 1]? = some b := by
  have h := heap_alloc_new (w.alloc a) b
  simpa using h
theorem two_cells' {w : World} {b : Nat} {x y : Value} {t : TypeId} (h : w.heap[b]? = some (.cells #[x, y] t (0, 0))) : w.cell? ⟨b, 0, none⟩ = some x ∧ w.cell? ⟨b, 1, none⟩ = some y ∧ b < w.heap.size :=
  ⟨(two_cells h).1, (two_cells h).2.1, (two_cells h).2.2.2.2⟩

theorem cmp_lt (a b : Rw) : decide (orS (cmpS a.2 b.2) (cmpS a.1 b.1) < 0) = decide (ltW a b) := by
  rw [decide_eq_decide]
  unfold orS cmpS ltW
  repeat' split
  all_goals omega

set_option maxHeartbeats 2000000 in
theorem less_any (w : World) (B T : Nat) (v : Value) (L : List Rw) (i j : Nat) (h : TmT w B T v L) (hi : i < L.length) (hj : j < L.length) :
    Calls Try.prog 42 #[.pointer (some ⟨T, 0, none⟩), .int .i64 i, .int .i64 j] w fun e w' => e = .returned (.bool (decide (ltW (rw_ L i) (rw_ L j)))) ∧ Below w.heap.size w w' := by
  obtain ⟨c, _⟩ := h.cell
  have hT := h.lt
  rw [rw_eq L i hi, rw_eq L j hj]
  obtain ⟨g, cap, rfl, hcap, hm, hg, hgT, a1, a2, _⟩ := h.two i hi
  obtain ⟨g', cap', he, _, _, _, _, b1, b2, _⟩ := h.two j hj
  injection he with he _ hcc
  injection he with he
  injection he with he _ _
  subst he hcc
  have HF := Lib.hid (cmp_lt L[i] L[j])
  generalize L[i] = r at *
  generalize L[j] = s at *
  obtain ⟨r1, r2⟩ := r
  obtain ⟨s1, s2⟩ := s
  simp only at a1 a2 b1 b2
  have i1 : (i : Int) < L.length := by omega
  have j1 : (j : Int) < L.length := by omega
  go_enter Try.func42, Try.ntmps42
  go_upto_region 1 with fail
  go_cut [7, 8] (fun a b wx => ∃ p q, a = .pointer (some ⟨p, 0, none⟩) ∧ b = .pointer (some ⟨q, 0, none⟩) ∧ wx.heap[p]? = some (.cells #[.int .i64 r1, .int .i64 r2] 52 (0, 0)) ∧ wx.heap[q]? = some (.cells #[.int .i64 s1, .int .i64 s2] 52 (0, 0)) ∧ Below w.heap.size w wx)
  case first =>
    go_region_held3 (fun w' => w'.cell? ⟨T, 0, none⟩ = some (.slice (some ⟨g, 0, none⟩) L.length cap) ∧ w'.cell? ⟨g, i * 2, none⟩ = some (.int .i64 r1) ∧ w'.cell? ⟨g, i * 2 + 1, none⟩ = some (.int .i64 r2) ∧ w'.cell? ⟨g, j * 2, none⟩ = some (.int .i64 s1) ∧ w'.cell? ⟨g, j * 2 + 1, none⟩ = some (.int .i64 s2)) (go_keep) (fail)
    all_goals go_wp2
    all_goals go_meet
    all_goals
      refine ⟨_, _, rfl, rfl, ?_, ?_, (((Below.refl w.heap.size w).alloc (Nat.le_refl _) _).alloc (by simp) _).drew⟩
      · first
          | exact alloc_first _ _ _
          | exact alloc_second _ _ _
      · first
          | exact alloc_first _ _ _
          | exact alloc_second _ _ _
  case rest =>
  obtain ⟨p, q, rfl, rfl, hp, hq, hb⟩ := hcut
  obtain ⟨c0, c1, hps⟩ := two_cells' hp
  obtain ⟨d0, d1, hqs⟩ := two_cells' hq
  have hz := hb.size
  clear hp hq
  go_wp2
  go_region_held3 (fun w' => w'.cell? ⟨p, 0, none⟩ = some (.int .i64 r1) ∧ w'.cell? ⟨p, 1, none⟩ = some (.int .i64 r2) ∧ w'.cell? ⟨q, 0, none⟩ = some (.int .i64 s1) ∧ w'.cell? ⟨q, 1, none⟩ = some (.int .i64 s2)) (simp [go_sem, World.cell?_alloc_past, *])
    (first
      | (go_at_call 47; refine (cmp_any _ _ _).mono ?_; rintro e w' ⟨rfl, rfl⟩)
      | (go_at_call 46; refine (or_any _ (cmpS r2 s2) (cmpS r1 s1) _ (by simp [go_sem]) (by simp [go_sem])).mono ?_; rintro e w' ⟨rfl, rfl⟩))
  all_goals
    go_wp2
    go_ret
    refine ⟨ret_bool HF.out, ?_⟩
    repeat (first | exact hb | apply Below.drew | apply below_drewN | (refine Below.alloc ?_ (by first | omega | (simp; done) | (simp; omega)) _))

/-- A row's cells written: what the object is then. -/
theorem Tm.put {w : World} {B T g cap : Nat} {ty el : TypeId} {L : List Rw} (h : Tm w B T ty el (.slice (some ⟨g, 0, none⟩) L.length cap) L) (i : Nat) (hi : i < L.length) (x y : Int) :
    Tm ((w.setCell ⟨g, i * 2, none⟩ (.int .i64 x)).setCell ⟨g, i * 2 + 1, none⟩ (.int .i64 y)) B T ty el (.slice (some ⟨g, 0, none⟩) (L.set i (x, y)).length cap) (L.set i (x, y)) := by
  have hg := h.apart g rfl
  have h1 := owns_set h.row (i * 2) (by rw [length_cellsW]; omega) (.int .i64 x)
  have h2 := owns_set h1 (i * 2 + 1) (by rw [List.length_set, length_cellsW]; omega) (.int .i64 y)
  rw [cellsW_set L i hi] at h2
  have e : (L.set i (x, y)).length = L.length := List.length_set
  refine ⟨?_, by rw [e]; exact h2, h.base, by rw [e]; exact h.apart⟩
  rw [e]
  rw [setCell_block_other _ _ _ _ hg.symm, setCell_block_other _ _ _ _ hg.symm]; exact h.obj
theorem Tm.drew {w : World} {B T : Nat} {ty el : TypeId} {v : Value} {L : List Rw} (h : Tm w B T ty el v L) : Tm w.drew B T ty el v L := h.keep (Below.refl _ _).drew
theorem Mv.put {T g : Nat} {w w' : World} {v : Value} {n cap : Nat} (h : Mv T w v w' (.slice (some ⟨g, 0, none⟩) n cap)) (j : Nat) (u : Value) : Mv T w v (w'.setCell ⟨g, j, none⟩ u) (.slice (some ⟨g, 0, none⟩) n cap) := by
  refine ⟨h.os, h.tape, h.output, by simpa [World.setCell] using h.size, fun b hb hT hv => ?_, fun q hq => h.stay q hq⟩
  have hbg : b ≠ g := by
    rintro rfl
    rcases h.stay b rfl with h1 | h1
    · exact hv h1
    · omega
  rw [setCell_block_other _ _ _ _ hbg, h.block b hb hT hv]
theorem Mv.drew {T : Nat} {w w' : World} {v v' : Value} (h : Mv T w v w' v') : Mv T w v w'.drew v' := ⟨h.os, h.tape, h.output, h.size, h.block, h.stay⟩

theorem Tm.swapped {w : World} {B T g cap : Nat} {ty el : TypeId} {L : List Rw} (h : Tm w B T ty el (.slice (some ⟨g, 0, none⟩) L.length cap) L) (i j : Nat) (hi : i < L.length) (hj : j < L.length) {r1 r2 s1 s2 : Int} (hr : rw_ L i = (r1, r2)) (hs : rw_ L j = (s1, s2)) :
    Tm ((((w.setCell ⟨g, i * 2, none⟩ (.int .i64 s1)).setCell ⟨g, i * 2 + 1, none⟩ (.int .i64 s2)).setCell ⟨g, j * 2, none⟩ (.int .i64 r1)).setCell ⟨g, j * 2 + 1, none⟩ (.int .i64 r2)).drew B T ty el (.slice (some ⟨g, 0, none⟩) L.length cap) (swapW L i j) ∧
    Mv T w (.slice (some ⟨g, 0, none⟩) L.length cap) ((((w.setCell ⟨g, i * 2, none⟩ (.int .i64 s1)).setCell ⟨g, i * 2 + 1, none⟩ (.int .i64 s2)).setCell ⟨g, j * 2, none⟩ (.int .i64 r1)).setCell ⟨g, j * 2 + 1, none⟩ (.int .i64 r2)).drew (.slice (some ⟨g, 0, none⟩) L.length cap) := by
  have h1 := h.put i hi s1 s2
  have h2 := h1.put j (by simpa using hj) r1 r2
  have e : swapW L i j = (L.set i (s1, s2)).set j (r1, r2) := by rw [swapW, hs, hr]
  rw [e]
  refine ⟨?_, (((((Mv.refl T w (.slice (some ⟨g, 0, none⟩) L.length cap)).put _ _).put _ _).put _ _).put _ _).drew⟩
  have h3 := h2.drew
  simpa only [List.length_set] using h3

set_option maxHeartbeats 2000000 in
theorem swap_any (w : World) (B T : Nat) (v : Value) (L : List Rw) (i j : Nat) (h : TmT w B T v L) (hi : i < L.length) (hj : j < L.length) :
    Calls Try.prog 45 #[.pointer (some ⟨T, 0, none⟩), .int .i64 i, .int .i64 j] w fun e w' => e = .returned (.tuple #[]) ∧ TmT w' B T v (swapW L i j) ∧ Mv T w v w' v := by
  obtain ⟨c, _⟩ := h.cell
  have hT := h.lt
  have HT := Lib.hid h
  obtain ⟨g, cap, rfl, hcap, hm, hg, hgT, a1, a2, hf⟩ := h.two i hi
  have i1 : (i : Int) < L.length := by omega
  have f0 := hf (i * 2)
  have f1 := hf (i * 2 + 1)
  have n5 : ¬ T = g := fun e => hgT e.symm
  by_cases hij : i = j
  · subst hij
    have HRI := Lib.hid (rw_eq L i hi)
    generalize L[i] = r at *
    obtain ⟨r1, r2⟩ := r
    simp only at a1 a2
    clear hf h
    go_enter Try.func45, Try.ntmps45
    go_wp2
    go_region
    go_end0
    exact ⟨rfl, HT.out.swapped i i hi hi HRI.out HRI.out⟩
  · obtain ⟨g', cap', he, _, _, _, _, b1, b2, _⟩ := h.two j hj
    injection he with he _ hcc
    injection he with he
    injection he with he _ _
    subst he hcc
    have HRI := Lib.hid (rw_eq L i hi)
    have HRJ := Lib.hid (rw_eq L j hj)
    generalize L[i] = r at *
    generalize L[j] = s at *
    obtain ⟨r1, r2⟩ := r
    obtain ⟨s1, s2⟩ := s
    simp only at a1 a2 b1 b2
    have j1 : (j : Int) < L.length := by omega
    have f2 := hf (j * 2)
    have f3 := hf (j * 2 + 1)
    clear hf h
    have n1 : ¬ i * 2 = j * 2 := by omega
    have n2 : ¬ i * 2 = j * 2 + 1 := by omega
    have n3 : ¬ i * 2 + 1 = j * 2 := by omega
    have n4 : ¬ i * 2 + 1 = j * 2 + 1 := by omega
    go_enter Try.func45, Try.ntmps45
    go_wp2
    go_region
    go_end0
    exact ⟨rfl, HT.out.swapped i j hi hj HRI.out HRJ.out⟩

end Go.Proofs.Ytoiegjfpoamcbaa
