/- Plain Lean: what the laws of ranges lean on. -/
import Derived.Test.YtbbjnjfakgjpcaaPl3
import Derived.Test.YtbbjnjfakgjpcaaWkJ
namespace Go.Proofs.Ytbbjnjfakgjpcaa

theorem memR_of {l : List Rg} {r : Rg} (h : r ∈ l) {n : Int} (h1 : r.1 ≤ n) (h2 : n < r.2) : memR l n := ⟨r, h, h1, h2⟩

/-- All numbers are below M. -/
def Bd (M : Int) (l : List Rg) : Prop := ∀ n, memR l n → n < M

theorem Bd.snd {M : Int} {l : List Rg} (h : Bd M l) (hl : RowP l) {r : Rg} (hr : r ∈ l) : r.2 ≤ M := by
  have h1 := hl.1 r hr
  have := h (r.2 - 1) (memR_of hr (by omega) (by omega))
  omega

theorem lenR_le {M : Int} {l : List Rg} (hl : RowP l) (m : Int) (hm : m ≤ M) (h : ∀ r ∈ l, m ≤ r.1 ∧ r.2 ≤ M) : lenR l ≤ M - m ∧ (l.length : Int) ≤ lenR l := by
  induction l generalizing m with
  | nil => simp [lenR]; omega
  | cons r l ih =>
    obtain ⟨a1, a2, a3⟩ := (rowP_cons r l).1 hl
    have h1 := h r (by simp)
    have h2 := ih a3 r.2 h1.2 (fun x hx => ⟨by have := a2 x hx; omega, (h x (by simp [hx])).2⟩)
    simp only [lenR, List.length_cons]
    omega

theorem Bd.len {M : Int} {l : List Rg} (h : Bd M l) (hl : RowP l) (hM : 0 ≤ M) : lenR l ≤ M ∧ (l.length : Int) ≤ M := by
  have := lenR_le hl 0 hM (fun r hr => ⟨(hl.1 r hr).1, h.snd hl hr⟩)
  omega

theorem bd_fold (ns : List Int) (l : List Rg) (h : RowP l) (hb : Bd 66 l) : Bd 66 (ns.foldl ofStep l) := by
  induction ns generalizing l with
  | nil => exact hb
  | cons a ns ih =>
    have h1 : ofStep l a = addT l (a % 60, a % 60 + 1 + (a.tdiv 60) % 6) := by unfold ofStep; exact addR_eq h (ofS_ok a).2.1
    refine ih _ (by rw [h1]; exact rowP_addT h (ofS_ok a)) (fun n hn => ?_)
    rw [h1, memR_addT h (ofS_ok a)] at hn
    rcases hn with hn | hn
    · exact hb n hn
    · simp only at hn; omega
theorem bd_ofS (ns : List Int) : Bd 66 (ofS ns) := bd_fold _ _ rowP_nil (fun n h => absurd h (memR_nil n))

/-- What is taken in pieces. -/
structure PInv (l rest back : List Rg) (N : Int) : Prop where
  rr : RowP rest
  rb : RowP back
  mem : ∀ x, memR l x ↔ memR back x ∨ memR rest x
  lt : ∀ x y, memR back x → memR rest y → x < y
  len : lenR rest = lenR l - N
  n0 : 0 ≤ N

theorem PInv.start {l : List Rg} (h : RowP l) : PInv l l [] 0 := ⟨h, rowP_nil, fun x => by simp [memR], fun x _ hx => absurd hx (memR_nil x), by omega, Int.le_refl _⟩

theorem PInv.step {l rest back : List Rg} {N k : Int} (h : PInv l rest back N) (h0 : 0 ≤ k) (h1 : k ≤ lenR rest) :
    PInv l (takeS rest k).2 (addAll back (takeS rest k).1) (N + k) := by
  obtain ⟨t1, t2, t3, t4, t5, t6, _⟩ := takeS_spec rest k h0 h1 h.rr
  have hm := memR_addAll h.rb t1.ok
  have cmono : ∀ x y, x ≤ y → cntR rest x ≤ cntR rest y := by
    intro x y hxy
    generalize rest = r
    induction r with
    | nil => simp [cntR]
    | cons r l ih => simp only [cntR]; omega
  refine ⟨t2, rowP_addAll h.rb t1.ok, fun x => ?_, fun x y hx hy => ?_, by rw [t4, h.len]; omega, by have := h.n0; omega⟩
  · rw [h.mem, hm, t5, t6]
    constructor
    · rintro (hx | hx)
      · exact .inl (.inl hx)
      · rcases Int.lt_or_le (cntR rest x) k with hc | hc
        · exact .inl (.inr ⟨hx, hc⟩)
        · exact .inr ⟨hx, hc⟩
    · rintro ((hx | hx) | hx)
      · exact .inl hx
      · exact .inr hx.1
      · exact .inr hx.1
  · rw [hm] at hx
    rw [t6] at hy
    rcases hx with hx | hx
    · exact h.lt x y hx hy.1
    · rw [t5] at hx
      rcases Int.lt_or_le x y with hc | hc
      · exact hc
      · have := cmono y x hc; omega

/-- The end of a row lies ahead of what all its numbers lie ahead of. -/
theorem last_le {b : List Rg} (hb : RowP b) (m : Int) (h : ∀ x, memR b x → x < m) {r : Rg} (hr : r ∈ b) : r.2 ≤ m := by
  have h1 := hb.1 r hr
  have := h (r.2 - 1) (memR_of hr (by omega) (by omega))
  omega

/-- Each piece begins behind what came ahead of it. -/
theorem PInv.behind {l rest back : List Rg} {N k : Int} (h : PInv l rest back N) (h0 : 0 ≤ k) (h1 : k ≤ lenR rest) (j : Nat) (hj : j < (takeS rest k).1.length) :
    ∀ x, memR (addAll back ((takeS rest k).1.take j)) x → x < (takeS rest k).1[j].1 := by
  obtain ⟨t1, t2, t3, t4, t5, t6, _⟩ := takeS_spec rest k h0 h1 h.rr
  intro x hx
  rw [memR_addAll h.rb (fun r hr => t1.ok r (List.mem_of_mem_take hr))] at hx
  have hj1 := t1.1 _ (List.getElem_mem hj)
  have hmj : memR rest (takeS rest k).1[j].1 := ((t5 _).1 (memR_of (List.getElem_mem hj) (Int.le_refl _) hj1.2.1)).1
  rcases hx with hx | hx
  · exact h.lt x _ hx hmj
  · obtain ⟨r, hr, hx1, hx2⟩ := hx
    have hp := t1.2
    have e : (takeS rest k).1 = (takeS rest k).1.take j ++ (takeS rest k).1[j] :: (takeS rest k).1.drop (j + 1) := by
      rw [← List.drop_eq_getElem_cons hj, List.take_append_drop]
    rw [e] at hp
    have := (List.pairwise_append.1 hp).2.2 r hr _ (List.mem_cons_self ..)
    omega

theorem PInv.all {l rest back : List Rg} {N : Int} (h : PInv l rest back N) (hl : RowP l) : addAll back rest = l :=
  rowP_ext (rowP_addAll h.rb h.rr.ok) hl (fun n => by rw [memR_addAll h.rb h.rr.ok, h.mem])

theorem PInv.bd {M : Int} {l rest back : List Rg} {N : Int} (h : PInv l rest back N) (hb : Bd M l) : Bd M rest ∧ Bd M back :=
  ⟨fun n hn => hb n ((h.mem n).2 (.inr hn)), fun n hn => hb n ((h.mem n).2 (.inl hn))⟩

end Go.Proofs.Ytbbjnjfakgjpcaa
