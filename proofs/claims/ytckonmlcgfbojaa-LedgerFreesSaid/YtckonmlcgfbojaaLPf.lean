/- Plain: what Free's loops keep. -/
import Derived.Test.YtckonmlcgfbojaaLPs
import Derived.Test.YtckonmlcgfbojaaPl3
namespace Go.Proofs.Ytckonmlcgfbojaa
open Go.RowKit

theorem sorted_split (l : List Int) (n : Int) (h : l.Pairwise (· ≤ ·)) : l.take (l.countP (· < n)) = l.filter (· < n) ∧ l.drop (l.countP (· < n)) = l.filter (fun x => !decide (x < n)) := by
  induction l with
  | nil => simp
  | cons x l ih =>
    rw [List.pairwise_cons] at h
    obtain ⟨i1, i2⟩ := ih h.2
    by_cases hx : x < n
    · simp [hx, i1, i2]
    · have hall : ∀ y ∈ l, ¬ y < n := fun y hy => by have := h.1 y hy; omega
      have h0 : l.countP (· < n) = 0 := by rw [List.countP_eq_zero]; intro y hy; simpa using hall y hy
      have hf : l.filter (· < n) = [] := by rw [List.filter_eq_nil_iff]; intro y hy; simpa using hall y hy
      have hf2 : l.filter (fun x => !decide (x < n)) = l := by rw [List.filter_eq_self]; intro y hy; have := hall y hy; simp; omega
      simp [hx, h0, hf, hf2]
theorem rise_sorted (l : List Int) (n : Int) (h : l.Pairwise (· ≤ ·)) : (rise l n).Pairwise (· ≤ ·) := by
  obtain ⟨h1, h2⟩ := sorted_split l n h
  unfold rise
  rw [h1, h2, List.pairwise_append]
  refine ⟨h.filter _, ?_, fun a ha b hb => ?_⟩
  · rw [List.pairwise_cons]
    refine ⟨fun a ha => ?_, h.filter _⟩
    simp only [List.mem_filter, Bool.not_eq_true', decide_eq_false_iff_not] at ha
    omega
  · simp only [List.mem_filter, decide_eq_true_eq] at ha
    simp only [List.mem_cons, List.mem_filter, Bool.not_eq_true', decide_eq_false_iff_not] at hb
    rcases hb with rfl | hb
    · omega
    · omega
theorem length_rise' (l : List Int) (n : Int) : (rise l n).length = l.length + 1 := by
  unfold rise
  have := List.countP_le_length (p := fun x => decide (x < n)) (l := l)
  simp only [List.length_append, List.length_take, List.length_cons, List.length_drop]
  omega
theorem boundI_keep (l : List Int) (n : Int) (h : l.Pairwise (· ≤ ·)) : (boundI l n).Pairwise (· ≤ ·) ∧ (boundI l n).length ≤ l.length + 1 := by
  unfold boundI
  split
  · exact ⟨h, by omega⟩
  · exact ⟨rise_sorted l n h, by rw [length_rise']; omega⟩
theorem len_le_lenR (l : List Rg) (h : Small l) : (l.length : Int) ≤ lenR l := by
  induction l with
  | nil => simp [lenR]
  | cons r l ih =>
    have h1 := h r (by simp)
    have h2 := ih (fun x hx => h x (by simp [hx]))
    simp only [lenR, List.length_cons]
    omega
theorem leftI_keep (l : List Rg) (n : Int) (h : RowP l) : RowP (leftI l n) ∧ lenR (leftI l n) ≤ lenR l := by
  unfold leftI
  split
  · obtain ⟨h1, _, _, h4⟩ := lessS_spec l n h
    exact ⟨h1, by rw [h4]; split <;> omega⟩
  · exact ⟨h, by omega⟩
theorem foldl_left (us : List Int) : ∀ l : List Rg, RowP l → RowP (us.foldl leftI l) ∧ lenR (us.foldl leftI l) ≤ lenR l := by
  induction us with
  | nil => intro l h; exact ⟨h, by simp⟩
  | cons u us ih =>
    intro l h
    obtain ⟨h1, h2⟩ := leftI_keep l u h
    obtain ⟨h3, h4⟩ := ih _ h1
    exact ⟨h3, by rw [List.foldl_cons]; omega⟩
theorem foldl_bound (us : List Int) : ∀ l : List Int, l.Pairwise (· ≤ ·) → (us.foldl boundI l).Pairwise (· ≤ ·) ∧ (us.foldl boundI l).length ≤ l.length + us.length := by
  induction us with
  | nil => intro l h; exact ⟨h, by simp⟩
  | cons u us ih =>
    intro l h
    obtain ⟨h1, h2⟩ := boundI_keep l u h
    obtain ⟨h3, h4⟩ := ih _ h1
    exact ⟨h3, by rw [List.foldl_cons, List.length_cons]; omega⟩

/-- Counters whose rights are at most U. -/
def CtU (U : Int) (cs : List Ct) : Prop := ∀ c ∈ cs, 0 ≤ c.up ∧ c.up ≤ U ∧ 0 ≤ c.down ∧ c.down ≤ U
def ScU (s : Sc) : Prop := 0 ≤ s.uu ∧ s.uu ≤ s.up ∧ s.up ≤ 2199023255552 ∧ 0 ≤ s.ud ∧ s.ud ≤ s.down ∧ s.down ≤ 2199023255552
theorem CtU.mono {U V : Int} {cs : List Ct} (h : CtU U cs) (hUV : U ≤ V) : CtU V cs := fun c hc => by have := h c hc; omega
theorem backC_keep {U : Int} {cs : List Ct} {s : Sc} (h : CtU U cs) (hs : ScU s) (hU : 0 ≤ U) : CtU (U + 2199023255552) (backC cs s) := by
  unfold backC
  split
  · exact h.mono (by omega)
  · intro c hc
    rcases List.mem_or_eq_of_mem_set hc with hc | rfl
    · have := h c hc; omega
    · have hg : 0 ≤ (cs.getD (ctIx cs s.key).toNat zCt).up ∧ (cs.getD (ctIx cs s.key).toNat zCt).up ≤ U ∧ 0 ≤ (cs.getD (ctIx cs s.key).toNat zCt).down ∧ (cs.getD (ctIx cs s.key).toNat zCt).down ≤ U := by
        rw [List.getD_eq_getElem?_getD]
        rcases hq : cs[(ctIx cs s.key).toNat]? with _ | c
        · simp only [Option.getD_none, zCt]; omega
        · simp only [Option.getD_some]; exact h c (List.mem_of_getElem? hq)
      unfold ScU at hs
      simp only
      omega
theorem length_backC (cs : List Ct) (s : Sc) : (backC cs s).length = cs.length := by unfold backC; split <;> simp
theorem foldl_back (ss : List Sc) : ∀ (U : Int) (cs : List Ct), 0 ≤ U → CtU U cs → (∀ s ∈ ss, ScU s) → CtU (U + 2199023255552 * ss.length) (ss.foldl backC cs) ∧ (ss.foldl backC cs).length = cs.length := by
  induction ss with
  | nil => intro U cs _ h _; exact ⟨by simpa using h, rfl⟩
  | cons s ss ih =>
    intro U cs hU h hs
    obtain ⟨h1, h2⟩ := ih (U + 2199023255552) (backC cs s) (by omega) (backC_keep h (hs s (by simp)) hU) (fun x hx => hs x (by simp [hx]))
    rw [List.foldl_cons]
    refine ⟨h1.mono ?_, by rw [h2, length_backC]⟩
    rw [List.length_cons]
    have : ((ss.length + 1 : Nat) : Int) = ss.length + 1 := by omega
    rw [this]
    omega
theorem foldl_snoc {α β : Type} (f : β → α → β) (l : List α) (b : β) (k : Nat) (hk : k < l.length) : (l.take (k + 1)).foldl f b = f ((l.take k).foldl f b) l[k] := by
  rw [take_snoc l k hk, List.foldl_append]; rfl

/-- What Free asks of a book, and of the lease that is freed. -/
structure FreeB (b : Bk) (l : Ls) : Prop where
  nc : b.cs.length < 1000
  nf : b.free.length < 10000
  nl : b.ls.length < 10000
  nb : b.bound.length < 10000
  each : ∀ l ∈ b.ls, l.sl.length < 1000 ∧ l.ids.length < 10000 ∧ l.used.length < 10000
  row : RowP l.ids
  len : lenR l.ids < 10000
  ct : CtU 2199023255552 b.cs
  sc : ∀ s ∈ l.sl, ScU s
  used : ∀ n ∈ l.used, -1000000000000 < n ∧ n < 1000000000000
  sort : b.bound.Pairwise (· ≤ ·)

end Go.Proofs.Ytckonmlcgfbojaa
