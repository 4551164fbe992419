/- Plain: what LedgerFrees' calls compute. Plain: the book of LedgerFrees. Plain: the book behind LedgerFrees is sound. -/
import Derived.Test.YtckonmlcgfbojaaLPf
import Derived.Test.YtckonmlcgfbojaaLBg
import Derived.Test.YtckonmlcgfbojaaLSh
import Derived.Test.YtckonmlcgfbojaaLSp

namespace Go.Proofs.Ytckonmlcgfbojaa
open Go.RowKit

/-! ### lengths of rows -/
theorem mergeS_len (l : List Rg) : ∀ (r : Rg), Ok r → RowP l → (∀ x ∈ l, r.1 ≤ x.2) → (∀ n, memR l n → ¬ (r.1 ≤ n ∧ n < r.2)) → lenR (mergeS l r) = lenR l + (r.2 - r.1) := by
  induction l with
  | nil => intro r _ _ _ _; simp [mergeS, lenR]
  | cons x t ih =>
    intro r hr hl hx hd
    have hx0 := hx x (by simp)
    obtain ⟨x1, x2, x3⟩ := (rowP_cons x t).1 hl
    unfold Ok at hr
    unfold mergeS
    by_cases hc : x.1 ≤ r.2
    · rw [if_pos hc]
      have htouch : x.2 = r.1 ∨ r.2 = x.1 := by
        by_cases h1 : x.2 ≤ r.1
        · left; omega
        · right
          rcases Int.lt_or_le x.1 r.2 with h2 | h2
          · exfalso
            refine hd (max x.1 r.1) ((memR_cons x t _).2 (.inl ⟨by omega, by omega⟩)) ⟨by omega, by omega⟩
          · omega
      rw [ih (min r.1 x.1, max r.2 x.2) ⟨by simp only; omega, by simp only; omega, by simp only; omega⟩ x3 (fun y hy => by
        have h1 := x2 y hy
        have h2 := x3.1 y hy
        simp only; omega) (fun n hn => by
        have h1 := hl.ge hn
        have h2 := hd n ((memR_cons x t n).2 (.inr hn))
        simp only
        omega)]
      simp only [lenR]
      omega
    · rw [if_neg hc]
      simp only [lenR]
      omega
theorem addT_len (l : List Rg) (r : Rg) (hr : Ok r) (hl : RowP l) (hd : ∀ n, memR l n → ¬ (r.1 ≤ n ∧ n < r.2)) : lenR (addT l r) = lenR l + (r.2 - r.1) := by
  induction l with
  | nil => simp [addT, lenR]
  | cons x t ih =>
    obtain ⟨x1, x2, x3⟩ := (rowP_cons x t).1 hl
    unfold addT
    by_cases hc : x.2 < r.1
    · rw [if_pos hc]
      simp only [lenR]
      rw [ih x3 (fun n hn => hd n ((memR_cons x t n).2 (.inr hn)))]
      omega
    · rw [if_neg hc]
      exact mergeS_len (x :: t) r hr hl (fun y hy => by
        simp only [List.mem_cons] at hy
        rcases hy with rfl | hy
        · omega
        · have h1 := x2 y hy
          have h2 := x3.1 y hy
          omega) hd
theorem addAll_len (rs : List Rg) : ∀ l, RowP l → RowP rs → (∀ n, memR l n → ¬ memR rs n) → lenR (addAll l rs) = lenR l + lenR rs := by
  induction rs with
  | nil => intro l _ _ _; simp [addAll, lenR]
  | cons r rs ih =>
    intro l hl hrs hd
    obtain ⟨r1, r2, r3⟩ := (rowP_cons r rs).1 hrs
    have hok : Ok r := r1
    have hd1 : ∀ n, memR l n → ¬ (r.1 ≤ n ∧ n < r.2) := fun n hn h => hd n hn ((memR_cons r rs n).2 (.inl h))
    show lenR (addAll (addS l r) rs) = _
    rw [addS_ok hok, ih (addT l r) (rowP_addT hl hok) r3 (fun n hn h => by
      rcases (memR_addT hl hok n).1 hn with h1 | h1
      · exact hd n h1 ((memR_cons r rs n).2 (.inr h))
      · have := hrs.ge h
        omega), addT_len l r hok hl hd1]
    simp only [lenR]
    omega
theorem leftFold (us : List Int) : ∀ l : List Rg, RowP l → us.Nodup → (∀ u ∈ us, memR l u) → (∀ n, memR (us.foldl leftI l) n ↔ memR l n ∧ n ∉ us) ∧ lenR (us.foldl leftI l) = lenR l - us.length := by
  induction us with
  | nil => intro l _ _ _; exact ⟨fun n => by simp, by simp⟩
  | cons u us ih =>
    intro l hl hn hm
    rw [List.nodup_cons] at hn
    have hu := hm u (by simp)
    have hh : hasR l u = true := (hasR_iff l u).2 hu
    obtain ⟨s1, s2, _, s4⟩ := lessS_spec l u hl
    have he : leftI l u = lessS l u := by unfold leftI; rw [if_pos hh]
    obtain ⟨i1, i2⟩ := ih (lessS l u) s1 hn.2 (fun x hx => (s2 x).2 ⟨hm x (by simp [hx]), fun e => hn.1 (e ▸ hx)⟩)
    rw [List.foldl_cons, he]
    refine ⟨fun n => ?_, ?_⟩
    · rw [i1, s2]
      simp only [List.mem_cons, not_or]
      constructor
      · rintro ⟨⟨a, b⟩, c⟩; exact ⟨a, b, c⟩
      · rintro ⟨a, b, c⟩; exact ⟨⟨a, b⟩, c⟩
    · rw [i2, s4, hh, List.length_cons]
      simp only [if_true]
      omega

end Go.Proofs.Ytckonmlcgfbojaa

namespace Go.Proofs.Ytckonmlcgfbojaa
open Go.RowKit

def fI (s : Nat) : List Rg := if s = 0 then [] else [(0, (s : Int))]
def fL (up down u d : Int) (ids : Nat) (us : List Int) : Ls := ⟨2, 3, 50, -1, [⟨⟨#[97]⟩, up, down, u, d⟩], fI ids, us⟩
def fB (up down : Int) (ids : Nat) (l : Ls) : Bk := ⟨[⟨⟨#[97]⟩, 0, 0, 20, 10, 10 - up, 10 - down⟩, ⟨⟨#[98]⟩, 1, -30, 30, 0, 30, 30⟩], [((ids : Int), 40)], [l], []⟩
/-- What was spent: some of what there is. -/
structure FI (up down u d : Int) (ids : Nat) (us : List Int) : Prop where
  up0 : 0 ≤ up ∧ up ≤ 10
  dn0 : 0 ≤ down ∧ down ≤ 10
  u0 : 0 ≤ u ∧ u ≤ up
  d0 : 0 ≤ d ∧ d ≤ down
  id : ids < 20
  srt : us.Pairwise (· < ·)
  inn : ∀ n ∈ us, 0 ≤ n ∧ n < ids

theorem fI_row (s : Nat) (h : s < 20) : RowP (fI s) := by
  unfold fI
  split
  · exact rowP_nil
  · exact (rowP_cons _ _).2 ⟨⟨by simp only; omega, by simp only; omega, by simp only; omega⟩, by simp, rowP_nil⟩
theorem fI_mem (s : Nat) (n : Int) : memR (fI s) n ↔ 0 ≤ n ∧ n < s := by
  unfold fI
  split
  · rename_i h; subst h; simp [memR] <;> omega
  · simp [memR]
theorem fI_len (s : Nat) : lenR (fI s) = s := by
  unfold fI
  split
  · rename_i h; subst h; rfl
  · simp [lenR]
theorem fI_has (s : Nat) (n : Int) : hasR (fI s) n = (decide (0 ≤ n) && decide (n < s)) := by
  rw [Bool.eq_iff_iff, hasR_iff, fI_mem, Bool.and_eq_true, decide_eq_true_iff, decide_eq_true_iff]

theorem f_take (n : Nat) (hn : n < 20) : (takeS [((0 : Int), 40)] n).2 = [((n : Int), 40)] ∧ addAll [] (takeS [((0 : Int), 40)] n).1 = fI n := by
  have h : ∀ n : Fin 20, (takeS [((0 : Int), 40)] n.val).2 = [((n.val : Int), 40)] ∧ addAll [] (takeS [((0 : Int), 40)] n.val).1 = fI n.val := by decide +kernel
  exact h ⟨n, hn⟩
theorem f_ix {c : Ct} {t : List Ct} (h : c.key = ⟨#[97]⟩) : ctIx (c :: t) ⟨#[97]⟩ = 0 := by
  show idxS _ (_ :: _) = 0
  rw [idxS, if_pos (decide_eq_true h)]
theorem f_eA : emp ⟨#[97]⟩ = false := by decide +kernel
theorem f_grant {up down : Int} {ids : Nat} (hu : 0 ≤ up ∧ up ≤ 10) (hd : 0 ≤ down ∧ down ≤ 10) (hn : ids < 20) :
    grantS begBk 2 3 50 [⟨⟨#[97]⟩, up, down, ids⟩] = (fB up down ids (fL up down 0 0 ids []), fL up down 0 0 ids [], 0) := by
  have hix : ctIx begBk.cs ⟨#[97]⟩ = 0 := f_ix rfl
  have hct : wnCt begBk ⟨⟨#[97]⟩, up, down, ids⟩ = ⟨⟨#[97]⟩, 0, 0, 20, 10, 10, 10⟩ := by
    unfold wnCt
    rw [show (⟨⟨#[97]⟩, up, down, ids⟩ : Wn).key = ⟨#[97]⟩ from rfl, hix]
    rfl
  obtain ⟨t1, t2⟩ := f_take ids hn
  have hwn : wnB ⟨⟨#[97]⟩, up, down, ids⟩ = true := by unfold wnB; simp; omega
  have hC := wantC_ok_k (b := begBk) (w := ⟨⟨#[97]⟩, up, down, ids⟩) hwn (by rw [show (⟨⟨#[97]⟩, up, down, ids⟩ : Wn).key = ⟨#[97]⟩ from rfl, hix]; decide) f_eA (by rw [hct]; simp only; omega) (by rw [hct]; simp only; omega)
  have a1 : wantE begBk ⟨⟨#[97]⟩, up, down, ids⟩ = 0 := by
    unfold wantE
    rw [if_pos hC]
    show (if lenR [((0 : Int), (40 : Int))] < (ids : Int) then (14 : Int) else 0) = 0
    rw [show lenR [((0 : Int), (40 : Int))] = 40 by rfl, if_neg (by omega)]
  have a2 : wantB begBk ⟨⟨#[97]⟩, up, down, ids⟩ = ⟨(fB up down ids (fL up down 0 0 ids [])).cs, [((ids : Int), 40)], [], []⟩ := by
    unfold wantB
    rw [hct, show (⟨⟨#[97]⟩, up, down, ids⟩ : Wn).key = ⟨#[97]⟩ from rfl, hix, if_neg (by rw [f_eA]; decide), show (takeS begBk.free (⟨⟨#[97]⟩, up, down, ids⟩ : Wn).ids).2 = [((ids : Int), 40)] from t1]
    simp [begBk, fB]
  have a3 : wantL begBk (newL 2 3 50) ⟨⟨#[97]⟩, up, down, ids⟩ = fL up down 0 0 ids [] := by
    unfold wantL
    rw [show (⟨⟨#[97]⟩, up, down, ids⟩ : Wn).key = ⟨#[97]⟩ from rfl, if_neg (by rw [f_eA]; decide)]
    rw [show addAll (newL 2 3 50).ids (takeS begBk.free (⟨⟨#[97]⟩, up, down, ids⟩ : Wn).ids).1 = fI ids from t2]
    rfl
  rw [grantS_ok (b := begBk) (b' := ⟨(fB up down ids (fL up down 0 0 ids [])).cs, [((ids : Int), 40)], [], []⟩) (l' := fL up down 0 0 ids []) (by rfl) (by rfl) (by rw [grantGo_ok (by simp) a1, a2, a3]; rfl)]
  rfl

theorem f_spB {up down u d n : Int} {ids : Nat} {us : List Int} (h : FI up down u d ids us) (hn : -100 ≤ n ∧ n ≤ 100) (hl : us.length < 1000) : SpB (fL up down u d ids us) n := by
  obtain ⟨⟨a1, a2⟩, ⟨a3, a4⟩, ⟨a5, a6⟩, ⟨a7, a8⟩, _, hs, _⟩ := h
  refine ⟨by simp [fL], by simp [fL, fI]; split <;> simp, by simp [fL]; omega, by omega, fun s hs => ?_, ?_⟩
  · simp only [fL, List.mem_cons, List.not_mem_nil, or_false] at hs
    subst hs
    simp only
    omega
  · exact hs.imp (fun {a b} hab => by omega)
theorem len_between (l : List Int) : ∀ a b : Int, a ≤ b → l.Pairwise (· < ·) → (∀ x ∈ l, a ≤ x ∧ x < b) → (l.length : Int) ≤ b - a := by
  induction l with
  | nil => intro a b h _ _; simp; omega
  | cons x l ih =>
    intro a b _ hp hm
    rw [List.pairwise_cons] at hp
    have hx := hm x (by simp)
    have := ih (x + 1) b (by omega) hp.2 (fun y hy => by
      have h1 := hp.1 y hy
      have h2 := hm y (by simp [hy])
      omega)
    rw [List.length_cons]
    omega
theorem FI.len {up down u d : Int} {ids : Nat} {us : List Int} (h : FI up down u d ids us) : us.length ≤ ids := by
  have := len_between us 0 ids (by omega) h.srt h.inn
  omega

/-- A count of one upward. -/
theorem f_up {up down u d : Int} {ids : Nat} {us : List Int} (h : FI up down u d ids us) : spendS (fL up down u d ids us) 4 ⟨#[97]⟩ 1 = if u < up then (fL up down (u + 1) d ids us, 0) else (fL up down u d ids us, 14) := by
  obtain ⟨_, _, ⟨a5, a6⟩, ⟨a7, a8⟩, _, _, _⟩ := h
  have hix : scIx (fL up down u d ids us).sl ⟨#[97]⟩ = 0 := by show idxS _ [_] = 0; rw [idxS, if_pos (decide_eq_true rfl)]
  unfold spendS spendC
  rw [if_pos rfl, hix, if_neg (by decide)]
  simp only [fL, Int.toNat_zero, List.getD_cons_zero]
  by_cases hlt : u < up
  · rw [if_neg (by omega), if_pos hlt]
    simp [useS]
    omega
  · rw [if_pos (by omega), if_neg hlt]
theorem f_down {up down u d : Int} {ids : Nat} {us : List Int} (h : FI up down u d ids us) : spendS (fL up down u d ids us) 4 ⟨#[97]⟩ (-1) = if d < down then (fL up down u (d + 1) ids us, 0) else (fL up down u d ids us, 14) := by
  obtain ⟨_, _, ⟨a5, a6⟩, ⟨a7, a8⟩, _, _, _⟩ := h
  have hix : scIx (fL up down u d ids us).sl ⟨#[97]⟩ = 0 := by show idxS _ [_] = 0; rw [idxS, if_pos (decide_eq_true rfl)]
  unfold spendS spendC
  rw [if_pos rfl, hix, if_neg (by decide)]
  simp only [fL, Int.toNat_zero, List.getD_cons_zero]
  by_cases hlt : d < down
  · rw [if_neg (by omega), if_pos hlt]
    simp [useS]
    omega
  · rw [if_pos (by omega), if_neg hlt]
theorem f_bind {up down u d : Int} {ids : Nat} {us : List Int} (key : ByteArray) {m : Int} (hm : 0 ≤ m) : spendS (fL up down u d ids us) 5 key m =
    if m < ids then (if us.contains m = true then (fL up down u d ids us, 7) else (fL up down u d ids (rise us m), 0)) else (fL up down u d ids us, 14) := by
  unfold spendS spendB
  rw [if_neg (by decide), if_pos rfl]
  have hh : hasR (fL up down u d ids us).ids m = decide (m < ids) := by
    show hasR (fI ids) m = _
    rw [fI_has]
    simp [hm]
  rw [hh]
  by_cases hlt : m < ids
  · rw [if_neg (by simpa using hlt), if_pos hlt]
    rfl
  · rw [if_pos (by simpa using hlt), if_neg hlt]
theorem rise_lt (l : List Int) (n : Int) (h : l.Pairwise (· < ·)) (hn : n ∉ l) : (rise l n).Pairwise (· < ·) := by
  obtain ⟨h1, h2⟩ := sorted_split l n (h.imp (fun {a b} hab => by omega))
  unfold rise
  rw [h1, h2, List.pairwise_append]
  refine ⟨h.filter _, ?_, fun a ha b hb => ?_⟩
  · rw [List.pairwise_cons]
    refine ⟨fun a ha => ?_, h.filter _⟩
    simp only [List.mem_filter, Bool.not_eq_true', decide_eq_false_iff_not] at ha
    have : a ≠ n := fun e => hn (e ▸ ha.1)
    omega
  · simp only [List.mem_filter, decide_eq_true_eq] at ha
    simp only [List.mem_cons, List.mem_filter, Bool.not_eq_true', decide_eq_false_iff_not] at hb
    rcases hb with rfl | hb
    · omega
    · omega
theorem mem_rise (l : List Int) (n x : Int) : x ∈ rise l n ↔ x = n ∨ x ∈ l := by
  unfold rise
  rw [List.mem_append, List.mem_cons]
  have := List.take_append_drop (l.countP (· < n)) l
  constructor
  · rintro (h | h | h)
    · exact .inr (List.mem_of_mem_take h)
    · exact .inl h
    · exact .inr (List.mem_of_mem_drop h)
  · rintro (h | h)
    · exact .inr (.inl h)
    · rw [← this, List.mem_append] at h
      rcases h with h | h
      · exact .inl h
      · exact .inr (.inr h)
theorem FI.bind {up down u d : Int} {ids : Nat} {us : List Int} (h : FI up down u d ids us) {m : Int} (hm : 0 ≤ m) (hlt : m < ids) (hn : us.contains m = false) : FI up down u d ids (rise us m) :=
  ⟨h.up0, h.dn0, h.u0, h.d0, h.id, rise_lt us m h.srt (fun hh => by rw [List.contains_iff_mem.2 hh] at hn; cases hn), fun x hx => by
    rcases (mem_rise us m x).1 hx with rfl | hx
    · exact ⟨hm, hlt⟩
    · exact h.inn x hx⟩
theorem f_put {up down u d : Int} {ids : Nat} {us : List Int} (l : Ls) (hl : l.dev = 2 ∧ l.epoch = 3) : putS (fB up down ids l) (fL up down u d ids us) = (fB up down ids (fL up down u d ids us), 0) := by
  have hix : atIx (fB up down ids l).ls 2 3 = 0 := by
    show idxS _ [_] = 0
    rw [idxS, if_pos (by simp [hl.1, hl.2])]
  unfold putS
  rw [show (fL up down u d ids us).dev = 2 from rfl, show (fL up down u d ids us).epoch = 3 from rfl, hix]
  rfl

/-- The pool behind it. -/
def fF (ids : Nat) (us : List Int) : List Rg := addAll [((ids : Int), 40)] (us.foldl leftI (fI ids))
def fC (u d : Int) (ids : Nat) (us : List Int) : Bk := ⟨[⟨⟨#[97]⟩, 0, 0, 20, 10, 10 - u, 10 - d⟩, ⟨⟨#[98]⟩, 1, -30, 30, 0, 30, 30⟩], fF ids us, [], us⟩
theorem foldl_boundI (us : List Int) : ∀ bd : List Int, (bd ++ us).Pairwise (· < ·) → us.foldl boundI bd = bd ++ us := by
  induction us with
  | nil => intro bd _; simp
  | cons x us ih =>
    intro bd h
    have hx : bd.contains x = false := by
      rw [Bool.eq_false_iff]
      intro hh
      have := (List.pairwise_append.1 h).2.2 x (List.contains_iff_mem.1 hh) x (by simp)
      omega
    have hlt : ∀ y ∈ bd, y < x := fun y hy => (List.pairwise_append.1 h).2.2 y hy x (by simp)
    have hc : bd.countP (· < x) = bd.length := List.countP_eq_length.2 (fun y hy => by simpa using hlt y hy)
    have hb : boundI bd x = bd ++ [x] := by
      unfold boundI rise
      rw [hx, hc]
      simp
    rw [List.foldl_cons, hb, ih (bd ++ [x]) (by simpa using h)]
    simp
theorem f_free {up down u d : Int} {ids : Nat} {us : List Int} (h : FI up down u d ids us) : freeS (fB up down ids (fL up down u d ids us)) 2 3 = (fC u d ids us, 0) := by
  have hix : atIx (fB up down ids (fL up down u d ids us)).ls 2 3 = 0 := by
    show idxS _ [_] = 0
    rw [idxS, if_pos (by simp [fL])]
  unfold freeS
  rw [hix, if_neg (by decide)]
  show (freeL _ 0 (fL up down u d ids us), (0 : Int)) = _
  congr 1
  unfold freeL fC
  have hc : (fL up down u d ids us).sl.foldl backC (fB up down ids (fL up down u d ids us)).cs = [⟨⟨#[97]⟩, 0, 0, 20, 10, 10 - u, 10 - d⟩, ⟨⟨#[98]⟩, 1, -30, 30, 0, 30, 30⟩] := by
    show backC (fB up down ids (fL up down u d ids us)).cs ⟨⟨#[97]⟩, up, down, u, d⟩ = _
    have hi : ctIx (fB up down ids (fL up down u d ids us)).cs ⟨#[97]⟩ = 0 := f_ix rfl
    unfold backC
    rw [show (⟨⟨#[97]⟩, up, down, u, d⟩ : Sc).key = ⟨#[97]⟩ from rfl, hi, if_neg (by decide)]
    simp only [fB, Int.toNat_zero, List.getD_cons_zero, List.set_cons_zero]
    congr 2 <;> omega
  rw [hc]
  have hb := foldl_boundI us [] (by simpa using h.srt)
  rw [List.nil_append] at hb
  show (⟨_, fF ids us, [], us.foldl boundI []⟩ : Bk) = _
  rw [hb]
theorem f_free2 {u d : Int} {ids : Nat} {us : List Int} : freeS (fC u d ids us) 2 3 = (fC u d ids us, 2) := rfl
theorem f_find {u d : Int} {ids : Nat} {us : List Int} : findS (fC u d ids us) 2 3 = (zLs, false) := rfl

theorem f_pool {up down u d : Int} {ids : Nat} {us : List Int} (h : FI up down u d ids us) : RowP (fF ids us) ∧ lenR (fF ids us) = 40 - us.length ∧ ∀ n, memR (fF ids us) n ↔ (0 ≤ n ∧ n < 40) ∧ n ∉ us := by
  have hid := h.id
  have hnd : us.Nodup := h.srt.imp (fun {a b} hab => by omega)
  have hrow := fI_row ids hid
  obtain ⟨l1, l2⟩ := leftFold us (fI ids) hrow hnd (fun x hx => (fI_mem ids x).2 (h.inn x hx))
  have hp : RowP [((ids : Int), (40 : Int))] := (rowP_cons _ _).2 ⟨⟨by simp only; omega, by simp only; omega, by simp only; omega⟩, by simp, rowP_nil⟩
  have hm : ∀ n, memR [((ids : Int), (40 : Int))] n ↔ (ids : Int) ≤ n ∧ n < 40 := fun n => by simp [memR]
  have hr := (foldl_left us (fI ids) hrow).1
  obtain ⟨s1, s2⟩ := addAll_spec (us.foldl leftI (fI ids)) [((ids : Int), 40)] hp (fun r hr' => hr.1 r hr')
  refine ⟨s1, ?_, fun n => ?_⟩
  · unfold fF
    rw [addAll_len _ _ hp hr (fun n hn h2 => by
      have := (hm n).1 hn
      have := (fI_mem ids n).1 ((l1 n).1 h2).1
      omega), l2, fI_len]
    simp only [lenR]
    omega
  · unfold fF
    rw [s2, hm, l1, fI_mem]
    constructor
    · rintro (⟨a, b⟩ | ⟨⟨a, b⟩, c⟩)
      · exact ⟨by omega, fun hx => by have := h.inn n hx; omega⟩
      · exact ⟨by omega, c⟩
    · rintro ⟨⟨a, b⟩, c⟩
      by_cases hlt : n < ids
      · exact .inr ⟨by omega, c⟩
      · exact .inl (by omega)
theorem f_freeB {up down u d : Int} {ids : Nat} {us : List Int} (h : FI up down u d ids us) : FreeB (fB up down ids (fL up down u d ids us)) (fL up down u d ids us) := by
  have hid := h.id
  have hl := h.len
  have hs : (fI ids).length ≤ 1 := by unfold fI; split <;> simp
  refine ⟨by simp [fB], by simp [fB], by simp [fB], by simp [fB], fun l hl' => ?_, fI_row ids hid, by show lenR (fI ids) < _; rw [fI_len]; omega, fun c hc => ?_, fun s hs' => ?_, fun n hn => ?_, by simp [fB]⟩
  · simp only [fB, List.mem_cons, List.not_mem_nil, or_false] at hl'
    subst hl'
    exact ⟨by simp [fL], by show (fI ids).length < _; omega, by show us.length < _; omega⟩
  · obtain ⟨⟨a1, a2⟩, ⟨a3, a4⟩, _⟩ := h
    simp only [fB, List.mem_cons, List.not_mem_nil, or_false] at hc
    rcases hc with rfl | rfl
    · simp only; omega
    · simp only; omega
  · obtain ⟨⟨a1, a2⟩, ⟨a3, a4⟩, ⟨a5, a6⟩, ⟨a7, a8⟩, _⟩ := h
    simp only [fL, List.mem_cons, List.not_mem_nil, or_false] at hs'
    subst hs'
    unfold ScU
    simp only
    omega
  · have := h.inn n hn
    omega
theorem f_bkB {up down u d : Int} {ids : Nat} {us : List Int} (h : FI up down u d ids us) : BkB (fB up down ids (fL up down u d ids us)) := by
  have hb := f_freeB h
  exact ⟨by have := hb.nc; omega, by have := hb.nf; omega, by have := hb.nl; omega, by have := hb.nb; omega, fun l hl => by have := hb.each l hl; exact ⟨by omega, by omega, by omega⟩⟩
theorem f_cB {up down u d : Int} {ids : Nat} {us : List Int} (h : FI up down u d ids us) : BkB (fC u d ids us) := by
  obtain ⟨h1, h2, _⟩ := f_pool h
  have := len_le_lenR _ h1.1
  have := h.len
  have := h.id
  exact ⟨by simp [fC], by show (fF ids us).length < _; omega, by simp [fC], by show us.length < _; omega, fun l hl => by simp [fC] at hl⟩
end Go.Proofs.Ytckonmlcgfbojaa

namespace Go.Proofs.Ytckonmlcgfbojaa
open Go.RowKit

theorem f_may1' : mayS ⟨⟨#[97]⟩, 0, 0, 20, 10, 0, 0⟩ = true := by decide +kernel
theorem f_may1 (x y : Int) : mayS ⟨⟨#[97]⟩, 0, 0, 20, 10, x, y⟩ = true := by
  have h : mayS ⟨⟨#[97]⟩, 0, 0, 20, 10, x, y⟩ = mayS ⟨⟨#[97]⟩, 0, 0, 20, 10, 0, 0⟩ := rfl
  rw [h, f_may1']
theorem f_may2' : mayS ⟨⟨#[98]⟩, 1, -30, 30, 0, 0, 0⟩ = true := by decide +kernel
theorem f_may2 (x y : Int) : mayS ⟨⟨#[98]⟩, 1, -30, 30, 0, x, y⟩ = true := by
  have h : mayS ⟨⟨#[98]⟩, 1, -30, 30, 0, x, y⟩ = mayS ⟨⟨#[98]⟩, 1, -30, 30, 0, 0, 0⟩ := rfl
  rw [h, f_may2']
theorem f_ct {u d : Int} (hu : 0 ≤ u ∧ u ≤ 10) (hd : 0 ≤ d ∧ d ≤ 10) : ctS [⟨⟨#[97]⟩, 0, 0, 20, 10, 10 - u, 10 - d⟩, ⟨⟨#[98]⟩, 1, -30, 30, 0, 30, 30⟩] = true := by
  have h1 : ctIx [(⟨⟨#[97]⟩, 0, 0, 20, 10, 10 - u, 10 - d⟩ : Ct), ⟨⟨#[98]⟩, 1, -30, 30, 0, 30, 30⟩] ⟨#[97]⟩ = 0 := f_ix rfl
  have h2 : ctIx [(⟨⟨#[97]⟩, 0, 0, 20, 10, 10 - u, 10 - d⟩ : Ct), ⟨⟨#[98]⟩, 1, -30, 30, 0, 30, 30⟩] ⟨#[98]⟩ = 1 := by
    show idxS _ (_ :: _ :: _) = 1
    rw [idxS, if_neg (by simp), idxS, if_pos (decide_eq_true rfl)]
    decide
  unfold ctS
  rw [Bool.and_eq_true, decide_eq_true_iff]
  refine ⟨fun i hi => ?_, by simp⟩
  match i, hi with
  | 0, _ =>
    show ctOk _ 0 ⟨⟨#[97]⟩, 0, 0, 20, 10, 10 - u, 10 - d⟩ = true
    unfold ctOk
    rw [f_may1, h1]
    simp
    omega
  | 1, _ =>
    show ctOk _ 1 ⟨⟨#[98]⟩, 1, -30, 30, 0, 30, 30⟩ = true
    unfold ctOk
    rw [f_may2, h2]
    decide
theorem f_left {u d : Int} (hu : 0 ≤ u ∧ u ≤ 10) (hd : 0 ≤ d ∧ d ≤ 10) : leftS [⟨⟨#[97]⟩, 0, 0, 20, 10, 10 - u, 10 - d⟩, ⟨⟨#[98]⟩, 1, -30, 30, 0, 30, 30⟩] [] = true := by
  unfold leftS
  rw [decide_eq_true_iff]
  intro i hi
  match i, hi with
  | 0, _ =>
    show leftOk [] ⟨⟨#[97]⟩, 0, 0, 20, 10, 10 - u, 10 - d⟩ = true
    unfold leftOk leasedU leasedD
    simp
    omega
  | 1, _ =>
    show leftOk [] ⟨⟨#[98]⟩, 1, -30, 30, 0, 30, 30⟩ = true
    decide
theorem f_rises (us : List Int) (h : us.Pairwise (· < ·)) : Rises us := h
theorem f_snd {up down u d : Int} {ids : Nat} {us : List Int} (h : FI up down u d ids us) : sndS (fC u d ids us) = true := by
  obtain ⟨p1, p2, p3⟩ := f_pool h
  have hu : 0 ≤ u ∧ u ≤ 10 := by have := h.u0; have := h.up0; omega
  have hd : 0 ≤ d ∧ d ≤ 10 := by have := h.d0; have := h.dn0; omega
  unfold sndS
  have e1 : decide (AllIx (lsOk (fC u d ids us).cs (fC u d ids us).ls) (fC u d ids us).ls) = true := decide_eq_true (fun i hi => by simp [fC] at hi)
  rw [e1]
  have e2 : ctS (fC u d ids us).cs = true := f_ct hu hd
  have e3 : leftS (fC u d ids us).cs (fC u d ids us).ls = true := f_left hu hd
  have e4 : decide (RowP (fC u d ids us).free) = true := decide_eq_true p1
  have e5 : decide (Rises (fC u d ids us).bound) = true := decide_eq_true (f_rises us h.srt)
  have e6 : apGo [] (rowsOf (fC u d ids us)) = true := by
    show apGo [] [fF ids us] = true
    unfold apGo
    have : (fF ids us).any (hits []) = false := by rw [List.any_eq_false]; intro x _; simp [hits]
    rw [this]
    rfl
  have e7 : (fC u d ids us).bound.any (inRows (rowsOf (fC u d ids us))) = false := by
    show us.any (inRows [fF ids us]) = false
    rw [List.any_eq_false]
    intro n hn
    have hh : hasR (fF ids us) n = false := by
      rw [Bool.eq_false_iff]
      intro e
      exact ((p3 n).1 ((hasR_iff _ _).1 e)).2 hn
    simp [inRows, amS, hh]
  rw [e2, e3, e4, e5, e6, e7]
  rfl
theorem f_sndB {up down u d : Int} {ids : Nat} {us : List Int} (h : FI up down u d ids us) : SndB (fC u d ids us) := by
  obtain ⟨p1, p2, p3⟩ := f_pool h
  have := len_le_lenR _ p1.1
  have := h.len
  have := h.id
  refine ⟨by simp [fC], ?_, fun c hc => ?_, fun l hl => by simp [fC] at hl⟩
  · show ([fF ids us] : List (List Rg)).flatten.length < _
    simp
    omega
  · simp only [fC, List.mem_cons, List.not_mem_nil, or_false] at hc
    rcases hc with rfl | rfl
    · show (⟨#[97]⟩ : ByteArray).size ≤ maxLen; decide
    · show (⟨#[98]⟩ : ByteArray).size ≤ maxLen; decide
end Go.Proofs.Ytckonmlcgfbojaa
