/- The walks of vector.Step, vector.Join, ref.Step, ref.Join. -/
import Derived.Test.YtlejcnobicbeoaaVWkF
import Derived.Test.YtlejcnobicbeoaaSlI
namespace Go.Proofs.Ytlejcnobicbeoaa
open Go.RowKit

def stepS (l : List En) (d e s : Int) : List En × Int := if d < 0 ∨ e < 0 ∨ s < 1 then ([], 1) else if hasL l d e s then ([], 7) else (joinS l [(d, e, s)], 0)
def stepV (l : List En) (d e s : Int) : List En × Int := if d < 0 ∨ e < 0 ∨ s < 1 then ([], 1) else if hasV l d e s then ([], 7) else (putR l (d, e, s), 0)

/-- What reads as entries is handed back. -/
def RetE (w : World) (l : List En) (en : Ending) (w' : World) : Prop := ∃ v', en = .returned v' ∧ SlE w' v' l ∧ Below w.heap.size w w'
/-- .. with a number. -/
def RetE2 (w : World) (r : List En × Int) (en : Ending) (w' : World) : Prop := ∃ v', en = .returned (.tuple #[v', .int .i64 r.2]) ∧ SlE w' v' r.1 ∧ Below w.heap.size w w'

/-- v lies in a block from B on. -/
def Fresh (B : Nat) (v : Value) : Prop := ∀ g, v.ownBlock = some g → B ≤ g
theorem fresh_nil (B : Nat) : Fresh B (.slice none 0 0) := fun g hg => by cases hg
/-- What reads as entries, in blocks of the call's own, is handed back with a number. -/
def RetF2 (w : World) (r : List En × Int) (en : Ending) (w' : World) : Prop := ∃ v', en = .returned (.tuple #[v', .int .i64 r.2]) ∧ SlE w' v' r.1 ∧ Fresh w.heap.size v' ∧ Below w.heap.size w w'
def RetF (w : World) (l : List En) (en : Ending) (w' : World) : Prop := ∃ v', en = .returned v' ∧ SlE w' v' l ∧ Fresh w.heap.size v' ∧ Below w.heap.size w w'
theorem RetRow.f {w : World} {l : List En} {e : Nat} {en : Ending} {w' : World} (h : RetRow w 3 e l.length (cellsE l) en w') : RetF w l en w' := by
  obtain ⟨v', h1, h2, h3⟩ := h
  exact ⟨v', h1, sl_of_owns h2, owns_ge h2, h3⟩

theorem RetRow.e {w : World} {l : List En} {e : Nat} {en : Ending} {w' : World} (h : RetRow w 3 e l.length (cellsE l) en w') : RetE w l en w' := by
  obtain ⟨v', h1, h2, h3⟩ := h
  exact ⟨v', h1, sl_of_owns h2, h3⟩

theorem join_any (v v' : Value) (l l' : List En) (w : World) (h : SlE w v l) (h' : SlE w v' l') (hl : l.length + l'.length < 1000000) :
    Calls Try.prog 13 #[v, v'] w (RetE w (joinS l l')) := by
  have HC := Lib.hid ((laid_any v v' l l' w h h' hl).mono fun _ _ hh => RetRow.e hh)
  go_enter Try.func13, Try.ntmps13
  go_wp2_with fail
  refine HC.out.mono ?_
  rintro en w1 ⟨v1, rfl, hs1, hb1⟩
  go_wp2
  go_ret
  exact ⟨v1, rfl, hs1, hb1⟩

theorem sl_three {w : World} {b : Nat} {x y z : Int} (h : w.heap[b]? = some (.cells #[.int .i64 x, .int .i64 y, .int .i64 z] 27 (0, 0))) : SlE w (.slice (some ⟨b, 0, none⟩) 1 1) [(x, y, z)] := by
  refine ⟨rfl, some ⟨b, 0, none⟩, 1, rfl, Nat.le_refl _, by unfold maxLen; omega, (fun h => by cases h), fun j u hu => ⟨b, 0, rfl, (Array.getElem?_eq_some_iff.1 h).1, ?_⟩⟩
  simp only [World.cell?, h]
  simpa [cellsE] using hu

set_option maxHeartbeats 1000000 in
theorem step_any (v : Value) (l : List En) (d e s : Int) (w : World) (h : SlE w v l) (hl : l.length < 999999) :
    Calls Try.prog 15 #[v, .agg #[.int .i64 d, .int .i64 e, .int .i64 s]] w (RetE2 w (stepS l d e s)) := by
  have hb0 : Below w.heap.size w (w.alloc (.cells #[.int .i64 d, .int .i64 e, .int .i64 s] 30)) := (Below.refl _ _).alloc (Nat.le_refl _) _
  by_cases h1 : d < 0
  · have HF : Hid (stepS l d e s = ([], 1)) := by show _ = _; simp [stepS, h1]
    go_enter Try.func15, Try.ntmps15
    go_wp2
    go_ret2
    rw [HF.out]
    exact ⟨_, rfl, SlE.nil _, hb0⟩
  by_cases h2 : e < 0
  · have HF : Hid (stepS l d e s = ([], 1)) := by show _ = _; simp [stepS, h2]
    have d1 : decide (d < 0) = false := by simpa using h1
    clear h1
    go_enter Try.func15, Try.ntmps15
    go_wp2
    go_ret2
    rw [HF.out]
    exact ⟨_, rfl, SlE.nil _, hb0⟩
  by_cases h3 : s < 1
  · have HF : Hid (stepS l d e s = ([], 1)) := by show _ = _; simp [stepS, h3]
    have d1 : decide (d < 0) = false := by simpa using h1
    have d2 : decide (e < 0) = false := by simpa using h2
    clear h1 h2
    go_enter Try.func15, Try.ntmps15
    go_wp2
    go_ret2
    rw [HF.out]
    exact ⟨_, rfl, SlE.nil _, hb0⟩
  have d1 : decide (d < 0) = false := by simpa using h1
  have d2 : decide (e < 0) = false := by simpa using h2
  have d3 : decide (s < 1) = false := by simpa using h3
  have HN : Hid (stepS l d e s = if hasL l d e s then ([], 7) else (joinS l [(d, e, s)], 0)) := by
    show _ = _; rw [stepS, if_neg]; omega
  clear h1 h2 h3
  have hn := heap_alloc_new w (.cells #[.int .i64 d, .int .i64 e, .int .i64 s] 30)
  have HC : Hid (Calls Try.prog 12 #[v, .agg #[.int .i64 d, .int .i64 e, .int .i64 s]] (w.alloc (.cells #[.int .i64 d, .int .i64 e, .int .i64 s] 30)) _) := has_any v l d e s _ (h.keep hb0 (Nat.le_refl _)) (by omega)
  have HNEW := Lib.hid hn
  clear hn
  cases hh : hasL l d e s with
  | true =>
    rw [hh] at HN HC
    simp only [if_true] at HN
    clear hh
    go_enter Try.func15, Try.ntmps15
    go_wp2_with fail
    refine HC.out.mono ?_
    rintro en w1 ⟨rfl, hb1⟩
    go_wp2
    go_ret2
    rw [HN.out]
    exact ⟨_, rfl, SlE.nil _, hb0.trans (hb1.mono hb0.size)⟩
  | false =>
    rw [hh] at HN HC
    simp only [Bool.false_eq_true, if_false] at HN
    clear hh
    go_enter Try.func15, Try.ntmps15
    go_wp2_with fail
    refine HC.out.mono ?_
    rintro en w1 ⟨rfl, hb1⟩
    obtain ⟨c0, c1, c2, hz1⟩ := three_cells (three_below HNEW.out hb1 (by simp))
    have hb2 := hb0.trans (hb1.mono hb0.size)
    have hz := hb2.size
    have hs1 := h.keep hb2 (Nat.le_refl _)
    clear hb1 HC HNEW hb0
    go_wp2_with fail
    have hb3 := hb2.alloc hz (.cells #[.int .i64 d, .int .i64 e, .int .i64 s] 27)
    refine ((laid_any v _ l [(d, e, s)] _ (hs1.keep ((Below.refl _ _).alloc (Nat.le_refl _) _) (Nat.le_refl _)) (sl_three (heap_alloc_new w1 _)) (by simp; omega)).mono fun _ _ hh => RetRow.e hh).mono ?_
    rintro en w4 ⟨v4, rfl, hs4, hb4⟩
    go_wp2
    go_ret2
    rw [HN.out]
    exact ⟨_, rfl, hs4, hb3.trans (hb4.mono hb3.size)⟩

set_option maxHeartbeats 1000000 in
theorem rstep_fresh (v : Value) (l : List En) (d e s : Int) (w : World) (h : SlE w v l) (hl : l.length < 999999) :
    Calls Try.prog 17 #[v, .agg #[.int .i64 d, .int .i64 e, .int .i64 s]] w (RetF2 w (stepV l d e s)) := by
  have hb0 : Below w.heap.size w (w.alloc (.cells #[.int .i64 d, .int .i64 e, .int .i64 s] 30)) := (Below.refl _ _).alloc (Nat.le_refl _) _
  by_cases h1 : d < 0
  · have HF : Hid (stepV l d e s = ([], 1)) := by show _ = _; simp [stepV, h1]
    go_enter Try.func17, Try.ntmps17
    go_wp2
    go_ret2
    rw [HF.out]
    exact ⟨_, rfl, SlE.nil _, fresh_nil _, hb0⟩
  by_cases h2 : e < 0
  · have HF : Hid (stepV l d e s = ([], 1)) := by show _ = _; simp [stepV, h2]
    have d1 : decide (d < 0) = false := by simpa using h1
    clear h1
    go_enter Try.func17, Try.ntmps17
    go_wp2
    go_ret2
    rw [HF.out]
    exact ⟨_, rfl, SlE.nil _, fresh_nil _, hb0⟩
  by_cases h3 : s < 1
  · have HF : Hid (stepV l d e s = ([], 1)) := by show _ = _; simp [stepV, h3]
    have d1 : decide (d < 0) = false := by simpa using h1
    have d2 : decide (e < 0) = false := by simpa using h2
    clear h1 h2
    go_enter Try.func17, Try.ntmps17
    go_wp2
    go_ret2
    rw [HF.out]
    exact ⟨_, rfl, SlE.nil _, fresh_nil _, hb0⟩
  have d1 : decide (d < 0) = false := by simpa using h1
  have d2 : decide (e < 0) = false := by simpa using h2
  have d3 : decide (s < 1) = false := by simpa using h3
  have HN : Hid (stepV l d e s = if hasV l d e s then ([], 7) else (putR l (d, e, s), 0)) := by
    show _ = _; rw [stepV, if_neg]; omega
  clear h1 h2 h3
  have hn := heap_alloc_new w (.cells #[.int .i64 d, .int .i64 e, .int .i64 s] 30)
  have HC : Hid (Calls Try.prog 20 #[v, .agg #[.int .i64 d, .int .i64 e, .int .i64 s]] (w.alloc (.cells #[.int .i64 d, .int .i64 e, .int .i64 s] 30)) _) := rhas_any v l d e s _ (h.keep hb0 (Nat.le_refl _)) (by omega)
  have HNEW := Lib.hid hn
  clear hn
  cases hh : hasV l d e s with
  | true =>
    rw [hh] at HN HC
    simp only [if_true] at HN
    clear hh
    go_enter Try.func17, Try.ntmps17
    go_wp2_with fail
    refine HC.out.mono ?_
    rintro en w1 ⟨rfl, hb1⟩
    go_wp2
    go_ret2
    rw [HN.out]
    exact ⟨_, rfl, SlE.nil _, fresh_nil _, hb0.trans (hb1.mono hb0.size)⟩
  | false =>
    rw [hh] at HN HC
    simp only [Bool.false_eq_true, if_false] at HN
    clear hh
    go_enter Try.func17, Try.ntmps17
    go_wp2_with fail
    refine HC.out.mono ?_
    rintro en w1 ⟨rfl, hb1⟩
    obtain ⟨c0, c1, c2, hz1⟩ := three_cells (three_below HNEW.out hb1 (by simp))
    have hb2 := hb0.trans (hb1.mono hb0.size)
    have hz := hb2.size
    have hs1 := h.keep hb2 (Nat.le_refl _)
    clear hb1 HC HNEW hb0
    go_wp2_with fail
    refine ((put_any v l (d, e, s) _ hs1 (by omega)).mono fun _ _ hh => RetRow.f hh).mono ?_
    rintro en w4 ⟨v4, rfl, hs4, hf4, hb4⟩
    go_wp2
    go_ret2
    rw [HN.out]
    exact ⟨_, rfl, hs4, fun g hg => Nat.le_trans hz (hf4 g hg), hb2.trans (hb4.mono hb2.size)⟩

theorem rstep_any (v : Value) (l : List En) (d e s : Int) (w : World) (h : SlE w v l) (hl : l.length < 999999) :
    Calls Try.prog 17 #[v, .agg #[.int .i64 d, .int .i64 e, .int .i64 s]] w (RetE2 w (stepV l d e s)) :=
  (rstep_fresh v l d e s w h hl).mono fun _ _ ⟨v', h1, h2, _, h4⟩ => ⟨v', h1, h2, h4⟩

end Go.Proofs.Ytlejcnobicbeoaa
