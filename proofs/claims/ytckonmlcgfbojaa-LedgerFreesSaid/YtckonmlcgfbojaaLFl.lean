/- The walk of LedgerFrees. -/
import Derived.Test.YtckonmlcgfbojaaLFq
import Derived.Test.YtckonmlcgfbojaaLFw
import Derived.Test.YtckonmlcgfbojaaHs
import Derived.Test.YtckonmlcgfbojaaLRl
import Derived.Test.YtckonmlcgfbojaaLLw
namespace Go.Proofs.Ytckonmlcgfbojaa
open Go.RowKit

theorem eleven_cells {w : World} {b : Nat} {a0 a1 a2 a3 a4 a5 a6 a7 a8 a9 a10 : Value} {t : TypeId} (h : w.heap[b]? = some (.cells #[a0, a1, a2, a3, a4, a5, a6, a7, a8, a9, a10] t (0, 0))) :
    (w.cell? ⟨b, 0, none⟩ = some a0 ∧ w.cell? ⟨b, 1, none⟩ = some a1 ∧ w.cell? ⟨b, 2, none⟩ = some a2 ∧ w.cell? ⟨b, 3, none⟩ = some a3 ∧ w.cell? ⟨b, 4, none⟩ = some a4 ∧ w.cell? ⟨b, 5, none⟩ = some a5 ∧ w.cell? ⟨b, 6, none⟩ = some a6 ∧ w.cell? ⟨b, 7, none⟩ = some a7 ∧ w.cell? ⟨b, 8, none⟩ = some a8 ∧ w.cell? ⟨b, 9, none⟩ = some a9 ∧ w.cell? ⟨b, 10, none⟩ = some a10) ∧ ∀ o, w.frozen? ⟨b, o, none⟩ = false := by
  refine ⟨⟨?_, ?_, ?_, ?_, ?_, ?_, ?_, ?_, ?_, ?_, ?_⟩, fun o => ?_⟩ <;> simp [World.cell?, World.frozen?, h]
/-- What a round of spending holds. -/
structure Fs (B p9 p10 p14 : Nat) (up down u d : Int) (ids : Nat) (us : List Int) (W5 wr : World) (vb : Array Value) (y : LsC) : Prop where
  fi : FI up down u d ids us
  bel : Below W5.heap.size W5 wr
  k9 : wr.heap[p9]? = some (.cells vb 32 (0, 0))
  k10 : wr.heap[p10]? = some (.cells #[.int .i64 y.dev, .int .i64 y.epoch, .int .i64 y.unt, .int .i64 y.last, y.s.v, y.i.v, y.u.v] 45 (0, 0))
  k14 : ∃ bs : Array Value, wr.heap[p14]? = some (.cells bs 69 (0, 0)) ∧ bs.size = 40 ∧ ∀ k : Nat, k < 40 → bs[k]? = some (.bool (us.contains (k : Int)))
  ly : LsO wr B y (fL up down u d ids us)


theorem f_spend {up down u d : Int} {ids : Nat} {us : List Int} (h : FI up down u d ids us) {kd n : Int} (hkn : (kd = 4 ∧ (n = 1 ∨ n = -1)) ∨ (kd = 5 ∧ 0 ≤ n ∧ n < 40)) :
    (∃ f : Int, (f = 14 ∨ f = 7) ∧ spendS (fL up down u d ids us) kd ⟨#[97]⟩ n = (fL up down u d ids us, f)) ∨ (kd = 5 ∧ 0 ≤ n ∧ n < ids ∧ us.contains n = false ∧ spendS (fL up down u d ids us) kd ⟨#[97]⟩ n = (fL up down u d ids (rise us n), 0)) ∨
    (kd = 4 ∧ n = 1 ∧ u < up ∧ spendS (fL up down u d ids us) kd ⟨#[97]⟩ n = (fL up down (u + 1) d ids us, 0)) ∨ (kd = 4 ∧ n = -1 ∧ d < down ∧ spendS (fL up down u d ids us) kd ⟨#[97]⟩ n = (fL up down u (d + 1) ids us, 0)) := by
  rcases hkn with ⟨rfl, rfl | rfl⟩ | ⟨rfl, h0, h1⟩
  · by_cases hlt : u < up
    · exact .inr (.inr (.inl ⟨rfl, rfl, hlt, by rw [f_up h, if_pos hlt]⟩))
    · exact .inl ⟨14, .inl rfl, by rw [f_up h, if_neg hlt]⟩
  · by_cases hlt : d < down
    · exact .inr (.inr (.inr ⟨rfl, rfl, hlt, by rw [f_down h, if_pos hlt]⟩))
    · exact .inl ⟨14, .inl rfl, by rw [f_down h, if_neg hlt]⟩
  · by_cases hlt : n < ids
    · by_cases hc : us.contains n = true
      · exact .inl ⟨7, .inr rfl, by rw [f_bind _ h0, if_pos hlt, if_pos hc]⟩
      · exact .inr (.inl ⟨rfl, h0, hlt, by simpa using hc, by rw [f_bind _ h0, if_pos hlt, if_neg hc]⟩)
    · exact .inl ⟨14, .inl rfl, by rw [f_bind _ h0, if_neg hlt]⟩


/-- Behind a good spend: the lease lies anew. -/
structure Fm (B p9 p10 p14 g : Nat) (us : List Int) (l : Ls) (op : Obj) (W5 wr : World) (vb : Array Value) (y : LsC) : Prop where
  bel : Below W5.heap.size W5 wr
  k9 : wr.heap[p9]? = some (.cells vb 32 (0, 0))
  k10 : wr.heap[p10]? = some (.cells #[.int .i64 y.dev, .int .i64 y.epoch, .int .i64 y.unt, .int .i64 y.last, y.s.v, y.i.v, y.u.v] 45 (0, 0))
  k14 : ∃ bs : Array Value, wr.heap[p14]? = some (.cells bs 69 (0, 0)) ∧ bs.size = 40 ∧ ∀ k : Nat, k < 40 → bs[k]? = some (.bool (us.contains (k : Int)))
  ly : LsO wr B y l
  op : wr.heap[g]? = some op

theorem fs_next {B P g C : Nat} {up down u d : Int} {ids : Nat} {us : List Int} {W5 wr W10 W11 : World} {vb : Array Value} {y z : LsC} {l : Ls} {op : Obj} (hbA : Below W10.heap.size W10 W11) (h : Fs B P (P + 1) (P + 2) up down u d ids us W5 wr vb y) (hP : P = W5.heap.size)
    (hb : Below wr.heap.size wr W10) (hz : LsO W10 C z l) (hC : wr.heap.size ≤ C) (hBC : B ≤ C) (hg : wr.heap.size ≤ g) (hop : W10.heap[g]? = some op) :
    Fm B P (P + 1) (P + 2) g us l op W5 (((((((W11.setCell ⟨P + 1, 0, none⟩ (.int .i64 z.dev)).setCell ⟨P + 1, 1, none⟩ (.int .i64 z.epoch)).setCell ⟨P + 1, 2, none⟩ (.int .i64 z.unt)).setCell ⟨P + 1, 3, none⟩ (.int .i64 z.last)).setCell ⟨P + 1, 4, none⟩ z.s.v).setCell ⟨P + 1, 5, none⟩ z.i.v).setCell ⟨P + 1, 6, none⟩ z.u.v) vb z := by
  obtain ⟨bs, k14, hs, hbs⟩ := h.k14
  have hlt : P + 2 < wr.heap.size := (Array.getElem?_eq_some_iff.1 k14).1
  have hgl : g < W10.heap.size := (Array.getElem?_eq_some_iff.1 hop).1
  have h11 := hbA.size
  have h10 := hb.size
  have hne : ∀ c, c ≠ P + 1 → c < W10.heap.size → (((((((W11.setCell ⟨P + 1, 0, none⟩ (.int .i64 z.dev)).setCell ⟨P + 1, 1, none⟩ (.int .i64 z.epoch)).setCell ⟨P + 1, 2, none⟩ (.int .i64 z.unt)).setCell ⟨P + 1, 3, none⟩ (.int .i64 z.last)).setCell ⟨P + 1, 4, none⟩ z.s.v).setCell ⟨P + 1, 5, none⟩ z.i.v).setCell ⟨P + 1, 6, none⟩ z.u.v).heap[c]? = W10.heap[c]? := fun c hc hl => by
    rw [set_ne _ _ _ (fun e => hc e.symm), set_ne _ _ _ (fun e => hc e.symm), set_ne _ _ _ (fun e => hc e.symm), set_ne _ _ _ (fun e => hc e.symm), set_ne _ _ _ (fun e => hc e.symm), set_ne _ _ _ (fun e => hc e.symm), set_ne _ _ _ (fun e => hc e.symm)]
    exact hbA.block c hl
  refine ⟨?_, ?_, ?_, ⟨bs, ?_, hs, hbs⟩, ?_, ?_⟩
  · have h1 : Below W5.heap.size W5 W11 := (h.bel.trans (hb.mono h.bel.size)).trans (hbA.mono (by have := h.bel.size; omega))
    exact ((((((h1.setCell (p := ⟨P + 1, 0, none⟩) (by simp; omega) _).setCell (p := ⟨P + 1, 1, none⟩) (by simp; omega) _).setCell (p := ⟨P + 1, 2, none⟩) (by simp; omega) _).setCell (p := ⟨P + 1, 3, none⟩) (by simp; omega) _).setCell (p := ⟨P + 1, 4, none⟩) (by simp; omega) _).setCell (p := ⟨P + 1, 5, none⟩) (by simp; omega) _).setCell (p := ⟨P + 1, 6, none⟩) (by simp; omega) _
  · rw [hne P (by omega) (by omega)]
    exact block_below h.k9 hb (by omega)
  · exact set_all7 (block_below (block_below h.k10 hb (by omega)) hbA (by omega)) _ _ _ _ _ _ _
  · rw [hne (P + 2) (by omega) (by omega)]
    exact block_below k14 hb (by omega)
  · exact (((((((((hz.keep hbA (Nat.le_refl _)).put ⟨P + 1, 0, none⟩ (by simp; omega) _).put ⟨P + 1, 1, none⟩ (by simp; omega) _).put ⟨P + 1, 2, none⟩ (by simp; omega) _).put ⟨P + 1, 3, none⟩ (by simp; omega) _).put ⟨P + 1, 4, none⟩ (by simp; omega) _).put ⟨P + 1, 5, none⟩ (by simp; omega) _).put ⟨P + 1, 6, none⟩ (by simp; omega) _)).base hBC
  · rw [hne g (by omega) hgl]
    exact hop

theorem fs_keep {B P up down u d ids us W5 wr wx vb y} (h : Fs B P (P + 1) (P + 2) up down u d ids us W5 wr vb y) (hP : P = W5.heap.size) (hb : Below wr.heap.size wr wx) : Fs B P (P + 1) (P + 2) up down u d ids us W5 wx vb y := by
  obtain ⟨bs, k14, hs, hbs⟩ := h.k14
  have hlt : P + 2 < wr.heap.size := (Array.getElem?_eq_some_iff.1 k14).1
  exact ⟨h.fi, h.bel.trans (hb.mono h.bel.size), block_below h.k9 hb (by omega), block_below h.k10 hb (by omega), ⟨bs, block_below k14 hb (by omega), hs, hbs⟩, h.ly.keep hb (Nat.le_refl _)⟩
theorem fm_up {B P up down u d ids us W5 wr wx vb y z g op} (h : Fs B P (P + 1) (P + 2) up down u d ids us W5 wr vb y) (hm : Fm B P (P + 1) (P + 2) g us (fL up down (u + 1) d ids us) op W5 wx vb z) (hlt : u < up) : Fs B P (P + 1) (P + 2) up down (u + 1) d ids us W5 wx vb z :=
  ⟨⟨h.fi.up0, h.fi.dn0, by have := h.fi.u0; omega, h.fi.d0, h.fi.id, h.fi.srt, h.fi.inn⟩, hm.bel, hm.k9, hm.k10, hm.k14, hm.ly⟩
theorem fm_down {B P up down u d ids us W5 wr wx vb y z g op} (h : Fs B P (P + 1) (P + 2) up down u d ids us W5 wr vb y) (hm : Fm B P (P + 1) (P + 2) g us (fL up down u (d + 1) ids us) op W5 wx vb z) (hlt : d < down) : Fs B P (P + 1) (P + 2) up down u (d + 1) ids us W5 wx vb z :=
  ⟨⟨h.fi.up0, h.fi.dn0, h.fi.u0, by have := h.fi.d0; omega, h.fi.id, h.fi.srt, h.fi.inn⟩, hm.bel, hm.k9, hm.k10, hm.k14, hm.ly⟩
theorem fm_cell {B P g us l op W5 wx vb z} (hm : Fm B P (P + 1) (P + 2) g us l op W5 wx vb z) {m : Nat} (hm40 : m < 40) : wx.cell? ⟨P + 1 + 1, m, none⟩ = some (.bool (us.contains (m : Int))) := by
  obtain ⟨bs, k14, hs, hbs⟩ := hm.k14
  have k14' : wx.heap[P + 1 + 1]? = some (.cells bs 69 (0, 0)) := k14
  simp [World.cell?, k14', hbs m hm40]
theorem fm_froz {B P g us l op W5 wx vb z} (hm : Fm B P (P + 1) (P + 2) g us l op W5 wx vb z) (m : Nat) : wx.frozen? ⟨P + 1 + 1, m, none⟩ = false := by
  obtain ⟨bs, k14, hs, hbs⟩ := hm.k14
  have k14' : wx.heap[P + 1 + 1]? = some (.cells bs 69 (0, 0)) := k14
  simp [World.frozen?, k14']
theorem rise_length (l : List Int) (n : Int) : (rise l n).length = l.length + 1 := by
  have h : (l.take (l.countP (· < n)) ++ l.drop (l.countP (· < n))).length = l.length := by rw [List.take_append_drop]
  unfold rise
  rw [List.length_append] at h ⊢
  rw [List.length_cons]
  omega
theorem fm_bind {B P up down u d ids us W5 wr wx vb y z g op} {m : Nat} (h : Fs B P (P + 1) (P + 2) up down u d ids us W5 wr vb y) (hm : Fm B P (P + 1) (P + 2) g us (fL up down u d ids (rise us m)) op W5 wx vb z) (hlt : (m : Int) < ids) (hn : us.contains (m : Int) = false) (hm40 : m < 40) (hP : P = W5.heap.size) : Fs B P (P + 1) (P + 2) up down u d ids (rise us m) W5 (wx.setCell ⟨P + 1 + 1, m, none⟩ (.bool true)) vb z := by
  obtain ⟨bs, k14, hs, hbs⟩ := hm.k14
  refine ⟨h.fi.bind (by omega) hlt hn, hm.bel.setCell (p := ⟨P + 1 + 1, m, none⟩) (by simp; omega) _, ?_, ?_, ⟨bs.set! m (.bool true), ?_, by simpa using hs, fun k hk => ?_⟩, ?_⟩
  · rw [set_ne _ _ _ (by simp; omega)]
    exact hm.k9
  · rw [set_ne _ _ _ (by simp)]
    exact hm.k10
  · simp [World.setCell, Array.getElem?_modify, k14]
  · by_cases hmk : m = k
    · subst hmk
      have : (rise us (m : Int)).contains (m : Int) = true := List.contains_iff_mem.2 ((mem_rise _ _ _).2 (.inl rfl))
      rw [this]
      simp [hs, hm40]
    · have hc : (rise us (m : Int)).contains (k : Int) = us.contains (k : Int) := by
        rw [Bool.eq_iff_iff, List.contains_iff_mem, List.contains_iff_mem, mem_rise]
        constructor
        · rintro (e | e)
          · omega
          · exact e
        · exact .inr
      rw [hc, ← hbs k hk]
      simp [hmk]
  · exact hm.ly.other (g := P + 1 + 1) (fun b hb => set_ne _ _ _ (fun e => hb e.symm) _) k14 (by decide) (by decide) (by decide)

set_option maxRecDepth 100000 in
set_option maxHeartbeats 8000000 in
theorem frees_walk (n0 n1 n2 : Int) (v : Value) (zs : List Int) (w : World) (h : SlI w v zs) (hI : I64 zs) : Calls Try.prog 9 #[.int .i64 n0, .int .i64 n1, .int .i64 n2, v] w fun e w' => e = .returned (.bool true) ∧ Below w.heap.size w w' := by
  obtain ⟨ao, cap, rfl, hcap, hcm⟩ := Sl.shape h
  have H0 := Lib.hid h
  have HI := Lib.hid hI
  clear h hI
  go_enter Try.func9, Try.ntmps9
  go_wp2_with fail
  refine (known_any _).mono ?_
  rintro e w1 ⟨rfl, hb1⟩
  have ha0 := Int.emod_nonneg n0 (show (11 : Int) ≠ 0 by omega)
  have ha1 := Int.emod_lt_of_pos n0 (show (0 : Int) < 11 by omega)
  have hc0 := Int.emod_nonneg n1 (show (11 : Int) ≠ 0 by omega)
  have hc1 := Int.emod_lt_of_pos n1 (show (0 : Int) < 11 by omega)
  have hd0 := Int.emod_nonneg n2 (show (20 : Int) ≠ 0 by omega)
  have hd1 := Int.emod_lt_of_pos n2 (show (0 : Int) < 20 by omega)
  go_wp2_with fail
  refine (wi_any n0 11 _ (by omega) (by omega)).mono ?_
  rintro e wq ⟨rfl, rfl⟩
  go_wp2_with fail
  refine (wi_any n1 11 _ (by omega) (by omega)).mono ?_
  rintro e wq ⟨rfl, rfl⟩
  go_wp2_with fail
  refine (wi_any n2 20 _ (by omega) (by omega)).mono ?_
  rintro e wq ⟨rfl, rfl⟩
  generalize n0 % 11 = up at *
  generalize n1 % 11 = down at *
  generalize n2 % 20 = idz at *
  obtain ⟨ids, rfl⟩ : ∃ ids : Nat, idz = ids := ⟨idz.toNat, by omega⟩
  go_wp2_with fail
  refine (begin_any _).mono ?_
  rintro e W2 ⟨⟨⟨ca, cn, cc⟩, ⟨fa, fn, fc⟩, ⟨la, ln, lc⟩, ⟨ba, bn, bc⟩⟩, rfl, hm2, hb2⟩
  have hbA : Below W2.heap.size W2 (W2.alloc (.cells #[.string ⟨#[97]⟩, .int .i64 up, .int .i64 down, .int .i64 ids] 49)) := (Below.refl _ _).alloc (Nat.le_refl _) _
  have HM := Lib.hid (hm2.keep hbA (Nat.le_refl _))
  have HV := Lib.hid (slWn_one (heap_alloc_new W2 (.cells #[.string ⟨#[97]⟩, .int .i64 up, .int .i64 down, .int .i64 ids] 49)))
  have HBW2 := Lib.hid ((hb1.trans (hb2.mono hb1.size)).trans (hbA.mono (hb1.trans (hb2.mono hb1.size)).size))
  clear hm2 hb2 hb1 hbA
  go_wp2_with fail
  refine (grant_own ⟨⟨ca, cn, cc⟩, ⟨fa, fn, fc⟩, ⟨la, ln, lc⟩, ⟨ba, bn, bc⟩⟩ begBk 2 3 50 _ [⟨⟨#[97]⟩, up, down, ids⟩] _ HM.out begGrB HV.out).mono ?_
  rw [f_grant ⟨ha0, by omega⟩ ⟨hc0, by omega⟩ (by omega)]
  rintro e W5 ⟨⟨⟨da, dn, dc⟩, ⟨ea, en', ec⟩, ⟨ma, mn, mc⟩, ⟨na, nn, nc⟩⟩, ⟨y1, y2, y3, y4, ⟨y5, y6, y7⟩, ⟨y8, y9, y10⟩, ⟨y11, y12, y13⟩⟩, xs, C, rfl, ho5, hC5, hl5, hb5⟩
  generalize W2.alloc (.cells #[.string ⟨#[97]⟩, .int .i64 up, .int .i64 down, .int .i64 ids] 49) = W3 at *
  have HM5 := Lib.hid ho5.m
  have HBW5 := Lib.hid (HBW2.out.trans (hb5.mono HBW2.out.size))
  have hB5 : W3.heap.size ≤ W5.heap.size := hb5.size
  have HL5 := Lib.hid hl5
  clear ho5 hC5 hl5 hb5 HBW2 HM HV
  obtain ⟨W6, hW6, k9, k10, k14, hb56, hz6⟩ := alloc3 W5 (.cells #[.slice da dn dc, .slice ea en' ec, .slice ma mn mc, .slice na nn nc] 32) (.cells #[.int .i64 y1, .int .i64 y2, .int .i64 y3, .int .i64 y4, .slice y5 y6 y7, .slice y8 y9 y10, .slice y11 y12 y13] 45) (.cells #[.bool false, .bool false, .bool false, .bool false, .bool false, .bool false, .bool false, .bool false, .bool false, .bool false, .bool false, .bool false, .bool false, .bool false, .bool false, .bool false, .bool false, .bool false, .bool false, .bool false, .bool false, .bool false, .bool false, .bool false, .bool false, .bool false, .bool false, .bool false, .bool false, .bool false, .bool false, .bool false, .bool false, .bool false, .bool false, .bool false, .bool false, .bool false, .bool false, .bool false] 69)
  have HFS0 : Hid (Fs W3.heap.size W5.heap.size (W5.heap.size + 1) (W5.heap.size + 2) up down 0 0 ids [] W5 W6 #[.slice da dn dc, .slice ea en' ec, .slice ma mn mc, .slice na nn nc] ⟨y1, y2, y3, y4, ⟨y5, y6, y7⟩, ⟨y8, y9, y10⟩, ⟨y11, y12, y13⟩⟩) :=
    Lib.hid ⟨⟨⟨ha0, by omega⟩, ⟨hc0, by omega⟩, ⟨by omega, ha0⟩, ⟨by omega, hc0⟩, by omega, by simp, by simp⟩, hb56, k9, k10, ⟨_, k14, rfl, fun k hk => by
      have hh : (#[.bool false, .bool false, .bool false, .bool false, .bool false, .bool false, .bool false, .bool false, .bool false, .bool false, .bool false, .bool false, .bool false, .bool false, .bool false, .bool false, .bool false, .bool false, .bool false, .bool false, .bool false, .bool false, .bool false, .bool false, .bool false, .bool false, .bool false, .bool false, .bool false, .bool false, .bool false, .bool false, .bool false, .bool false, .bool false, .bool false, .bool false, .bool false, .bool false, .bool false] : Array Value) = Array.replicate 40 (.bool false) := rfl
      rw [hh, Array.getElem?_replicate, if_pos hk]
      simp⟩, HL5.out.keep hb56 (Nat.le_refl _)⟩
  have HW6 := Lib.hid hW6
  clear hW6 k9 k10 k14 hb56 hz6 HL5
  go_upto_block 0 with fail
  rw [HW6.out]
  clear HW6
  go_cut [12, 13, 15] (fun v12 v13 v15 wx => ∃ (u d : Int) (us : List Int) (y : LsC), v12 = .int .i64 u ∧ v13 = .int .i64 d ∧ v15 = .int .i64 us.length ∧ Fs W3.heap.size W5.heap.size (W5.heap.size + 1) (W5.heap.size + 2) up down u d ids us W5 wx #[.slice da dn dc, .slice ea en' ec, .slice ma mn mc, .slice na nn nc] y)
  case first =>
    go_wp2
    go_loopw [12, 13, 15, 16] (fun v12 v13 v15 v16 wr => ∃ (i : Nat) (u d : Int) (us : List Int) (y : LsC), i ≤ 20 ∧ v16 = .int .i64 i ∧ v12 = .int .i64 u ∧ v13 = .int .i64 d ∧ v15 = .int .i64 us.length ∧ Fs W3.heap.size W5.heap.size (W5.heap.size + 1) (W5.heap.size + 2) up down u d ids us W5 wr #[.slice da dn dc, .slice ea en' ec, .slice ma mn mc, .slice na nn nc] y) (fun _ _ _ v16 _ => 20 - (intOf v16).toNat)
    case atStart => exact ⟨0, 0, 0, [], _, by omega, rfl, rfl, rfl, rfl, HFS0.out⟩
    case round =>
      obtain ⟨i, u, d, us, ⟨y1, y2, y3, y4, ⟨y5, y6, y7⟩, ⟨y8, y9, y10⟩, ⟨y11, y12, y13⟩⟩, hi, rfl, rfl, rfl, rfl, hfs⟩ := hrel
      have HF := Lib.hid hfs
      clear hfs
      by_cases hgo : i < zs.length ∧ i < 20
      · obtain ⟨hlt, h20⟩ := hgo
        have ilt : (i : Int) < zs.length := by omega
        have i20 : (i : Int) < 20 := by omega
        obtain ⟨zb, zo, rfl, hzb, c0⟩ := SlI.cell H0.out (HBW5.out.trans (HF.out.bel.mono HBW5.out.size)) (Nat.le_refl _) i hlt
        have HZ := Lib.hid (HI.out zs[i] (List.getElem_mem hlt))
        have hzb2 : zb < wr.heap.size := by have h1 := HBW5.out.size; have h2 := HF.out.bel.size; omega
        have HZC := Lib.hid (fun V (hV : Below wr.heap.size wr V) => (hV.cell (p := ⟨zb, zo + i, none⟩) hzb2).trans c0)
        generalize zs[i] = z at *
        clear c0
        obtain ⟨hz1, hz2⟩ := HZ.out
        go_upto_region 13 with fail
        go_cut [17] (fun v17 wx => ∃ (g : Nat) (N : Int), v17 = .pointer (some ⟨g, 0, none⟩) ∧ (N = 1 ∨ N = -1) ∧ wx.heap[g]? = some (.cells #[.int .i64 2, .int .i64 3, .int .i64 (i + 1), .int .i64 0, .int .i64 1, .int .i64 4, .string ⟨#[97]⟩, .string ⟨#[]⟩, .int .i64 N, .int .i64 0, .slice none 0 0] 63 (0, 0)) ∧ wr.heap.size ≤ g ∧ Below wr.heap.size wr wx)
        case first =>
          have hr0 := Int.emod_nonneg z (show (2 : Int) ≠ 0 by omega)
          have hr1 := Int.emod_lt_of_pos z (show (0 : Int) < 2 by omega)
          have c0 := HZC.out _ (Below.refl _ _)
          have iw : IntKind.i64.wrap ((i : Int) + 1) = (i : Int) + 1 := IntWalk.i64_in _ (by omega)
          go_wp2_with fail
          refine (wi_any z 2 _ (by omega) (by omega)).mono ?_
          rintro e wq ⟨rfl, rfl⟩
          generalize z % 2 = r at *
          have hbq : Below wr.heap.size wr (wr.alloc (.cells #[.int .i64 1, .int .i64 (-1)] 3)) := (Below.refl _ _).alloc (Nat.le_refl _) _
          have hkq := heap_alloc_new wr (.cells #[.int .i64 1, .int .i64 (-1)] 3)
          obtain ⟨q0, q1, _, _, hq⟩ := two_cells hkq
          have hr : r = 0 ∨ r = 1 := by omega
          clear hr0 hr1
          rcases hr with rfl | rfl
          · go_wp2
            go_meet
            exact ⟨_, 1, rfl, .inl rfl, alloc_second wr _ _, by simp, hbq.alloc (by simp) _⟩
          · go_wp2
            go_meet
            exact ⟨_, -1, rfl, .inr rfl, alloc_second wr _ _, by simp, hbq.alloc (by simp) _⟩
        case rest =>
        obtain ⟨g, N, rfl, hN, hk17, hge, hbq⟩ := hcut
        obtain ⟨W8, hW8⟩ : ∃ W8, W8 = wc := ⟨_, rfl⟩
        subst hW8
        have K17 := Lib.hid hk17
        have HB8 := Lib.hid hbq
        clear hk17 hbq
        have c0 := HZC.out _ HB8.out
        obtain ⟨tm, htm⟩ : ∃ tm, z.tmod 3 = tm := ⟨_, rfl⟩
        have HTM := Lib.hid htm
        have iq : IntKind.i64.wrap (z.tdiv 3) = z.tdiv 3 := IntWalk.i64_in _ (by
          have h1 := Int.mul_tdiv_add_tmod z 3
          have h2 := Int.tmod_lt_of_pos z (show (0 : Int) < 3 by omega)
          have h3 : -3 < z.tmod 3 := by
            have := Int.tmod_lt_of_pos (-z) (show (0 : Int) < 3 by omega)
            rw [Int.neg_tmod] at this
            omega
          omega)
        obtain ⟨o0, o1, o2, o3, o4, o5, o6, o7, o8, o9, o10⟩ := (eleven_cells K17.out).1
        have ofz := (eleven_cells K17.out).2
        have of5 := ofz 5
        have of8 := ofz 8
        clear ofz htm
        go_upto_if 76 with fail
        rw [HTM.out]
        go_cut [] (fun wx => ∃ kd n : Int, ((kd = 4 ∧ (n = 1 ∨ n = -1)) ∨ (kd = 5 ∧ 0 ≤ n ∧ n < 40)) ∧ wx.heap[g]? = some (.cells #[.int .i64 2, .int .i64 3, .int .i64 (i + 1), .int .i64 0, .int .i64 1, .int .i64 kd, .string ⟨#[97]⟩, .string ⟨#[]⟩, .int .i64 n, .int .i64 0, .slice none 0 0] 63 (0, 0)) ∧ Below wr.heap.size wr wx)
        case first =>
          by_cases h3 : tm = 0
          · subst h3
            have hm0 := Int.emod_nonneg (z.tdiv 3) (show (40 : Int) ≠ 0 by omega)
            have hm1 := Int.emod_lt_of_pos (z.tdiv 3) (show (0 : Int) < 40 by omega)
            go_wp2_with fail
            refine (wi_any (z.tdiv 3) 40 _ (by omega) (by omega)).mono ?_
            rintro e wq ⟨rfl, rfl⟩
            generalize z.tdiv 3 % 40 = m at *
            go_wp2
            go_meet
            exact ⟨5, m, .inr ⟨rfl, hm0, hm1⟩, by simp [World.setCell, Array.getElem?_modify, K17.out], (HB8.out.setCell hge _).setCell hge _⟩
          · have h3f : (tm == 0) = false := by simpa using h3
            go_wp2
            go_meet
            exact ⟨4, N, .inl ⟨rfl, hN⟩, K17.out, HB8.out⟩
        case rest =>
        obtain ⟨kd, n, hkn, hk17, hbq⟩ := hcut
        obtain ⟨W9, hW9⟩ : ∃ W9, W9 = wc := ⟨_, rfl⟩
        subst hW9
        have K17' := Lib.hid hk17
        have HB9 := Lib.hid hbq
        clear hk17 hbq o0 o1 o2 o3 o4 o5 o6 o7 o8 o9 o10 of5 of8 iq K17 HB8 HTM c0 HZC
        have HK10 := Lib.hid (block_below HF.out.k10 HB9.out (Array.getElem?_eq_some_iff.1 HF.out.k10).1)
        have HLY := Lib.hid (HF.out.ly.keep HB9.out (Nat.le_refl _))
        obtain ⟨o0, o1, o2, o3, o4, o5, o6, o7, o8, o9, o10⟩ := (eleven_cells K17'.out).1
        obtain ⟨e0, e1, e2, e3, e4, e5, e6, _⟩ := seven_cells HK10.out
        simp only [Sv.v] at e4 e5 e6
        have hlen := HF.out.fi.len
        have hidz := HF.out.fi.id
        go_wp2_with fail
        refine (spend_own ⟨y1, y2, y3, y4, ⟨y5, y6, y7⟩, ⟨y8, y9, y10⟩, ⟨y11, y12, y13⟩⟩ (fL up down u d ids us) ⟨2, 3, i + 1, 0, 1, kd, ⟨#[97]⟩, ⟨#[]⟩, n, 0, ⟨none, 0, 0⟩⟩ _ HLY.out.m (f_spB (n := n) HF.out.fi (by omega) (by omega))).mono ?_
        intro e W10 hret
        have hret : RetSpO W9 (spendS (fL up down u d ids us) kd ⟨#[97]⟩ n) e W10 := hret
        rcases f_spend HF.out.fi hkn with ⟨f, hf, hs⟩ | ⟨rfl, hn0, hlt, hcn, hs⟩ | ⟨rfl, rfl, hlt, hs⟩ | ⟨rfl, rfl, hlt, hs⟩
        · rw [hs] at hret
          obtain ⟨⟨z1, z2, z3, z4, ⟨z5, z6, z7⟩, ⟨z8, z9, z10⟩, ⟨z11, z12, z13⟩⟩, rfl, hz, hb10⟩ := hret
          have HBX := Lib.hid (HB9.out.trans (hb10.mono HB9.out.size))
          have hfb : (f != 0) = true := by rcases hf with rfl | rfl <;> rfl
          clear hz hb10
          have iw : IntKind.i64.wrap ((i : Int) + 1) = (i : Int) + 1 := IntWalk.i64_in _ (by omega)
          go_wp2
          go_roundw
          case rel => exact ⟨i + 1, u, d, us, ⟨y1, y2, y3, y4, ⟨y5, y6, y7⟩, ⟨y8, y9, y10⟩, ⟨y11, y12, y13⟩⟩, by omega, by go_num, rfl, rfl, rfl, fs_keep HF.out rfl (HBX.out.alloc HBX.out.size _)⟩
          case measure => simp [intOf]; omega
        · rw [hs] at hret
          obtain ⟨⟨z1, z2, z3, z4, ⟨z5, z6, z7⟩, ⟨z8, z9, z10⟩, ⟨z11, z12, z13⟩⟩, rfl, hz, hb10⟩ := hret
          have HZL := Lib.hid (show LsO W10 W9.heap.size ⟨z1, z2, z3, z4, ⟨z5, z6, z7⟩, ⟨z8, z9, z10⟩, ⟨z11, z12, z13⟩⟩ (fL up down (u) (d) ids (rise us n)) from hz)
          have HBX := Lib.hid (HB9.out.trans (hb10.mono HB9.out.size))
          have HOP := Lib.hid (block_below K17'.out hb10 (Array.getElem?_eq_some_iff.1 K17'.out).1)
          have HKX := Lib.hid (block_below HK10.out hb10 (Array.getElem?_eq_some_iff.1 HK10.out).1)
          have HS9 := Lib.hid HB9.out.size
          obtain ⟨WA, hWA⟩ : ∃ WA, W10.alloc (.cells #[.int .i64 z1, .int .i64 z2, .int .i64 z3, .int .i64 z4, .slice z5 z6 z7, .slice z8 z9 z10, .slice z11 z12 z13] 45) = WA := ⟨_, rfl⟩
          have hbA : Below W10.heap.size W10 WA := by rw [← hWA]; exact (Below.refl _ _).alloc (Nat.le_refl _) _
          have HBA := Lib.hid hbA
          have HK18 : Hid (WA.heap[W10.heap.size]? = some (.cells #[.int .i64 z1, .int .i64 z2, .int .i64 z3, .int .i64 z4, .slice z5 z6 z7, .slice z8 z9 z10, .slice z11 z12 z13] 45 (0, 0))) := Lib.hid (by rw [← hWA]; exact heap_alloc_new _ _)
          have HKXA := Lib.hid (block_below HKX.out hbA (Array.getElem?_eq_some_iff.1 HKX.out).1)
          have HWA := Lib.hid hWA
          clear hz hs e0 e1 e2 e3 e4 e5 e6 o0 o1 o2 o3 o4 o5 o6 o7 o8 o9 o10 hbA hWA hb10
          go_upto_region 18 with fail
          rw [HWA.out]
          go_cut [] (fun wx => Fm W3.heap.size W5.heap.size (W5.heap.size + 1) (W5.heap.size + 2) g us (fL up down (u) (d) ids (rise us n)) (.cells #[.int .i64 2, .int .i64 3, .int .i64 (i + 1), .int .i64 0, .int .i64 1, .int .i64 5, .string ⟨#[97]⟩, .string ⟨#[]⟩, .int .i64 n, .int .i64 0, .slice none 0 0] 63 (0, 0)) W5 wx #[.slice da dn dc, .slice ea en' ec, .slice ma mn mc, .slice na nn nc] ⟨z1, z2, z3, z4, ⟨z5, z6, z7⟩, ⟨z8, z9, z10⟩, ⟨z11, z12, z13⟩⟩)
          case first =>
            obtain ⟨e0, e1, e2, e3, e4, e5, e6, _⟩ := seven_cells HKXA.out
            obtain ⟨n0, n1, n2, n3, n4, n5, n6, _⟩ := seven_cells HK18.out
            have efz : ∀ o, WA.frozen? ⟨W5.heap.size + 1, o, none⟩ = false := fun o => by simp [World.frozen?, HKXA.out]
            simp only [Sv.v] at e4 e5 e6
            have f0 := efz 0
            have f1 := efz 1
            have f2 := efz 2
            have f3 := efz 3
            have f4 := efz 4
            have f5 := efz 5
            have f6 := efz 6
            clear efz
            go_wp2
            go_meet
            exact fs_next (z := ⟨z1, z2, z3, z4, ⟨z5, z6, z7⟩, ⟨z8, z9, z10⟩, ⟨z11, z12, z13⟩⟩) (P := W5.heap.size) (B := W3.heap.size) HBA.out HF.out rfl HBX.out HZL.out HS9.out (by have := HS9.out; have := HF.out.bel.size; omega) hge HOP.out
          case rest =>
          obtain ⟨W11, hW11⟩ : ∃ W11, W11 = wc := ⟨_, rfl⟩
          subst hW11
          have HM := Lib.hid hcut
          clear hcut HZL HBX HOP HKX HS9 K17' HB9 HK10 HLY HBA HK18 HKXA HWA
          obtain ⟨⟨o0, o1, o2, o3, o4, o5, o6, o7, o8, o9, o10⟩, _⟩ := eleven_cells HM.out.op
          have iw : IntKind.i64.wrap ((i : Int) + 1) = (i : Int) + 1 := IntWalk.i64_in _ (by omega)
          have iv : IntKind.i64.wrap ((us.length : Int) + 1) = (us.length : Int) + 1 := IntWalk.i64_in _ (by omega)
          obtain ⟨m, rfl⟩ : ∃ m : Nat, n = m := ⟨n.toNat, by omega⟩
          have m40 : m < 40 := by omega
          have cm : W11.cell? ⟨W5.heap.size + 1 + 1, m, none⟩ = some (.bool (us.contains (m : Int))) := fm_cell HM.out m40
          have fm : W11.frozen? ⟨W5.heap.size + 1 + 1, m, none⟩ = false := fm_froz HM.out m
          have m40i : (m : Int) < 40 := by omega
          go_wp2
          go_roundw
          case rel => exact ⟨i + 1, u, d, rise us m, ⟨z1, z2, z3, z4, ⟨z5, z6, z7⟩, ⟨z8, z9, z10⟩, ⟨z11, z12, z13⟩⟩, by omega, by go_num, rfl, rfl, by rw [rise_length]; go_num, fm_bind HF.out HM.out hlt hcn m40 rfl⟩
          case measure => simp [intOf]; omega
        · rw [hs] at hret
          obtain ⟨⟨z1, z2, z3, z4, ⟨z5, z6, z7⟩, ⟨z8, z9, z10⟩, ⟨z11, z12, z13⟩⟩, rfl, hz, hb10⟩ := hret
          have HZL := Lib.hid (show LsO W10 W9.heap.size ⟨z1, z2, z3, z4, ⟨z5, z6, z7⟩, ⟨z8, z9, z10⟩, ⟨z11, z12, z13⟩⟩ (fL up down (u + 1) (d) ids (us)) from hz)
          have HBX := Lib.hid (HB9.out.trans (hb10.mono HB9.out.size))
          have HOP := Lib.hid (block_below K17'.out hb10 (Array.getElem?_eq_some_iff.1 K17'.out).1)
          have HKX := Lib.hid (block_below HK10.out hb10 (Array.getElem?_eq_some_iff.1 HK10.out).1)
          have HS9 := Lib.hid HB9.out.size
          obtain ⟨WA, hWA⟩ : ∃ WA, W10.alloc (.cells #[.int .i64 z1, .int .i64 z2, .int .i64 z3, .int .i64 z4, .slice z5 z6 z7, .slice z8 z9 z10, .slice z11 z12 z13] 45) = WA := ⟨_, rfl⟩
          have hbA : Below W10.heap.size W10 WA := by rw [← hWA]; exact (Below.refl _ _).alloc (Nat.le_refl _) _
          have HBA := Lib.hid hbA
          have HK18 : Hid (WA.heap[W10.heap.size]? = some (.cells #[.int .i64 z1, .int .i64 z2, .int .i64 z3, .int .i64 z4, .slice z5 z6 z7, .slice z8 z9 z10, .slice z11 z12 z13] 45 (0, 0))) := Lib.hid (by rw [← hWA]; exact heap_alloc_new _ _)
          have HKXA := Lib.hid (block_below HKX.out hbA (Array.getElem?_eq_some_iff.1 HKX.out).1)
          have HWA := Lib.hid hWA
          clear hz hs e0 e1 e2 e3 e4 e5 e6 o0 o1 o2 o3 o4 o5 o6 o7 o8 o9 o10 hbA hWA hb10
          go_upto_region 18 with fail
          rw [HWA.out]
          go_cut [] (fun wx => Fm W3.heap.size W5.heap.size (W5.heap.size + 1) (W5.heap.size + 2) g us (fL up down (u + 1) (d) ids (us)) (.cells #[.int .i64 2, .int .i64 3, .int .i64 (i + 1), .int .i64 0, .int .i64 1, .int .i64 4, .string ⟨#[97]⟩, .string ⟨#[]⟩, .int .i64 1, .int .i64 0, .slice none 0 0] 63 (0, 0)) W5 wx #[.slice da dn dc, .slice ea en' ec, .slice ma mn mc, .slice na nn nc] ⟨z1, z2, z3, z4, ⟨z5, z6, z7⟩, ⟨z8, z9, z10⟩, ⟨z11, z12, z13⟩⟩)
          case first =>
            obtain ⟨e0, e1, e2, e3, e4, e5, e6, _⟩ := seven_cells HKXA.out
            obtain ⟨n0, n1, n2, n3, n4, n5, n6, _⟩ := seven_cells HK18.out
            have efz : ∀ o, WA.frozen? ⟨W5.heap.size + 1, o, none⟩ = false := fun o => by simp [World.frozen?, HKXA.out]
            simp only [Sv.v] at e4 e5 e6
            have f0 := efz 0
            have f1 := efz 1
            have f2 := efz 2
            have f3 := efz 3
            have f4 := efz 4
            have f5 := efz 5
            have f6 := efz 6
            clear efz
            go_wp2
            go_meet
            exact fs_next (z := ⟨z1, z2, z3, z4, ⟨z5, z6, z7⟩, ⟨z8, z9, z10⟩, ⟨z11, z12, z13⟩⟩) (P := W5.heap.size) (B := W3.heap.size) HBA.out HF.out rfl HBX.out HZL.out HS9.out (by have := HS9.out; have := HF.out.bel.size; omega) hge HOP.out
          case rest =>
          obtain ⟨W11, hW11⟩ : ∃ W11, W11 = wc := ⟨_, rfl⟩
          subst hW11
          have HM := Lib.hid hcut
          clear hcut HZL HBX HOP HKX HS9 K17' HB9 HK10 HLY HBA HK18 HKXA HWA
          obtain ⟨⟨o0, o1, o2, o3, o4, o5, o6, o7, o8, o9, o10⟩, _⟩ := eleven_cells HM.out.op
          have iw : IntKind.i64.wrap ((i : Int) + 1) = (i : Int) + 1 := IntWalk.i64_in _ (by omega)
          have hu10 := HF.out.fi.up0
          have hu0 := HF.out.fi.u0
          have iv : IntKind.i64.wrap (u + 1) = u + 1 := IntWalk.i64_in _ (by omega)
          go_wp2
          go_roundw
          case rel => exact ⟨i + 1, u + 1, d, us, ⟨z1, z2, z3, z4, ⟨z5, z6, z7⟩, ⟨z8, z9, z10⟩, ⟨z11, z12, z13⟩⟩, by omega, by go_num, rfl, rfl, rfl, fm_up HF.out HM.out hlt⟩
          case measure => simp [intOf]; omega
        · rw [hs] at hret
          obtain ⟨⟨z1, z2, z3, z4, ⟨z5, z6, z7⟩, ⟨z8, z9, z10⟩, ⟨z11, z12, z13⟩⟩, rfl, hz, hb10⟩ := hret
          have HZL := Lib.hid (show LsO W10 W9.heap.size ⟨z1, z2, z3, z4, ⟨z5, z6, z7⟩, ⟨z8, z9, z10⟩, ⟨z11, z12, z13⟩⟩ (fL up down (u) (d + 1) ids (us)) from hz)
          have HBX := Lib.hid (HB9.out.trans (hb10.mono HB9.out.size))
          have HOP := Lib.hid (block_below K17'.out hb10 (Array.getElem?_eq_some_iff.1 K17'.out).1)
          have HKX := Lib.hid (block_below HK10.out hb10 (Array.getElem?_eq_some_iff.1 HK10.out).1)
          have HS9 := Lib.hid HB9.out.size
          obtain ⟨WA, hWA⟩ : ∃ WA, W10.alloc (.cells #[.int .i64 z1, .int .i64 z2, .int .i64 z3, .int .i64 z4, .slice z5 z6 z7, .slice z8 z9 z10, .slice z11 z12 z13] 45) = WA := ⟨_, rfl⟩
          have hbA : Below W10.heap.size W10 WA := by rw [← hWA]; exact (Below.refl _ _).alloc (Nat.le_refl _) _
          have HBA := Lib.hid hbA
          have HK18 : Hid (WA.heap[W10.heap.size]? = some (.cells #[.int .i64 z1, .int .i64 z2, .int .i64 z3, .int .i64 z4, .slice z5 z6 z7, .slice z8 z9 z10, .slice z11 z12 z13] 45 (0, 0))) := Lib.hid (by rw [← hWA]; exact heap_alloc_new _ _)
          have HKXA := Lib.hid (block_below HKX.out hbA (Array.getElem?_eq_some_iff.1 HKX.out).1)
          have HWA := Lib.hid hWA
          clear hz hs e0 e1 e2 e3 e4 e5 e6 o0 o1 o2 o3 o4 o5 o6 o7 o8 o9 o10 hbA hWA hb10
          go_upto_region 18 with fail
          rw [HWA.out]
          go_cut [] (fun wx => Fm W3.heap.size W5.heap.size (W5.heap.size + 1) (W5.heap.size + 2) g us (fL up down (u) (d + 1) ids (us)) (.cells #[.int .i64 2, .int .i64 3, .int .i64 (i + 1), .int .i64 0, .int .i64 1, .int .i64 4, .string ⟨#[97]⟩, .string ⟨#[]⟩, .int .i64 (-1), .int .i64 0, .slice none 0 0] 63 (0, 0)) W5 wx #[.slice da dn dc, .slice ea en' ec, .slice ma mn mc, .slice na nn nc] ⟨z1, z2, z3, z4, ⟨z5, z6, z7⟩, ⟨z8, z9, z10⟩, ⟨z11, z12, z13⟩⟩)
          case first =>
            obtain ⟨e0, e1, e2, e3, e4, e5, e6, _⟩ := seven_cells HKXA.out
            obtain ⟨n0, n1, n2, n3, n4, n5, n6, _⟩ := seven_cells HK18.out
            have efz : ∀ o, WA.frozen? ⟨W5.heap.size + 1, o, none⟩ = false := fun o => by simp [World.frozen?, HKXA.out]
            simp only [Sv.v] at e4 e5 e6
            have f0 := efz 0
            have f1 := efz 1
            have f2 := efz 2
            have f3 := efz 3
            have f4 := efz 4
            have f5 := efz 5
            have f6 := efz 6
            clear efz
            go_wp2
            go_meet
            exact fs_next (z := ⟨z1, z2, z3, z4, ⟨z5, z6, z7⟩, ⟨z8, z9, z10⟩, ⟨z11, z12, z13⟩⟩) (P := W5.heap.size) (B := W3.heap.size) HBA.out HF.out rfl HBX.out HZL.out HS9.out (by have := HS9.out; have := HF.out.bel.size; omega) hge HOP.out
          case rest =>
          obtain ⟨W11, hW11⟩ : ∃ W11, W11 = wc := ⟨_, rfl⟩
          subst hW11
          have HM := Lib.hid hcut
          clear hcut HZL HBX HOP HKX HS9 K17' HB9 HK10 HLY HBA HK18 HKXA HWA
          obtain ⟨⟨o0, o1, o2, o3, o4, o5, o6, o7, o8, o9, o10⟩, _⟩ := eleven_cells HM.out.op
          have iw : IntKind.i64.wrap ((i : Int) + 1) = (i : Int) + 1 := IntWalk.i64_in _ (by omega)
          have hu10 := HF.out.fi.dn0
          have hu0 := HF.out.fi.d0
          have iv : IntKind.i64.wrap (d + 1) = d + 1 := IntWalk.i64_in _ (by omega)
          go_wp2
          go_roundw
          case rel => exact ⟨i + 1, u, d + 1, us, ⟨z1, z2, z3, z4, ⟨z5, z6, z7⟩, ⟨z8, z9, z10⟩, ⟨z11, z12, z13⟩⟩, by omega, by go_num, rfl, rfl, rfl, fm_down HF.out HM.out hlt⟩
          case measure => simp [intOf]; omega
      · have HX : Hid (¬ ((i : Int) < zs.length ∧ (i : Int) < 20)) := Lib.hid (by omega)
        by_cases hl1 : (i : Int) < zs.length
        · have h20 : ¬ (i : Int) < 20 := fun hh => HX.out ⟨hl1, hh⟩
          go_wp2
          go_meet
          exact ⟨u, d, us, _, rfl, rfl, rfl, HF.out⟩
        · go_wp2
          go_meet
          exact ⟨u, d, us, _, rfl, rfl, rfl, HF.out⟩
  case rest =>
  obtain ⟨u, d, us, ⟨y1, y2, y3, y4, ⟨y5, y6, y7⟩, ⟨y8, y9, y10⟩, ⟨y11, y12, y13⟩⟩, rfl, rfl, rfl, hfs⟩ := hcut
  have HFS := Lib.hid hfs
  clear hfs
  have HF0 := Lib.hid HFS0.out.fi
  have HBK := Lib.hid (HM5.out.keep HFS.out.bel (Nat.le_refl _))
  have HBW6 := Lib.hid (HBW5.out.trans (HFS.out.bel.mono HBW5.out.size))
  have HBW5s := HBW5.out.size
  clear HM5 HFS0 HBW5
  obtain ⟨d0, d1, d2, d3, hd9⟩ := four_cells HFS.out.k9
  obtain ⟨e0, e1, e2, e3, e4, e5, e6, he10⟩ := seven_cells HFS.out.k10
  simp only [Sv.v] at e4 e5 e6
  go_wp2_with fail
  refine (put_own ⟨⟨da, dn, dc⟩, ⟨ea, en', ec⟩, ⟨ma, mn, mc⟩, ⟨na, nn, nc⟩⟩ (fB up down ids (fL up down 0 0 ids [])) ⟨y1, y2, y3, y4, ⟨y5, y6, y7⟩, ⟨y8, y9, y10⟩, ⟨y11, y12, y13⟩⟩ (fL up down u d ids us) _ HBK.out (f_bkB HF0.out) HFS.out.ly.m ((f_bkB HFS.out.fi).each _ (List.mem_singleton.2 rfl))).mono ?_
  rw [f_put _ ⟨rfl, rfl⟩]
  rintro e W7 ⟨⟨⟨pa, pn, pc⟩, ⟨qa, qn, qc⟩, ⟨ra, rn, rc⟩, ⟨sa, sn, sc⟩⟩, xs', C', rfl, hbo, hC', hb7⟩
  have hbo : BkO W7 wc.heap.size C' ⟨⟨pa, pn, pc⟩, ⟨qa, qn, qc⟩, ⟨ra, rn, rc⟩, ⟨sa, sn, sc⟩⟩ (fB up down ids (fL up down u d ids us)) xs' := hbo
  have k9 := block_below HFS.out.k9 hb7 hd9
  have HK9 := Lib.hid k9
  obtain ⟨q0, q1, q2, q3, hq9⟩ := four_cells k9
  have qfz : ∀ o, W7.frozen? ⟨W5.heap.size, o, none⟩ = false := fun o => by simp [World.frozen?, k9]
  have z0 := qfz 0
  have z1 := qfz 1
  have z2 := qfz 2
  have z3 := qfz 3
  have hb9 : W5.heap.size ≤ wc.heap.size := HFS.out.bel.size
  have HBO := Lib.hid ((((hbo.put hC' ⟨W5.heap.size, 0, none⟩ (by simpa using hd9) (.slice pa pn pc)).put hC' ⟨W5.heap.size, 1, none⟩ (by simpa using hd9) (.slice qa qn qc)).put hC' ⟨W5.heap.size, 2, none⟩ (by simpa using hd9) (.slice ra rn rc)).put hC' ⟨W5.heap.size, 3, none⟩ (by simpa using hd9) (.slice sa sn sc)).m
  have HB7k := Lib.hid hb7
  have HB7 := Lib.hid (((((hb7.mono hb9).setCell (p := ⟨W5.heap.size, 0, none⟩) (Nat.le_refl _) (.slice pa pn pc)).setCell (p := ⟨W5.heap.size, 1, none⟩) (Nat.le_refl _) (.slice qa qn qc)).setCell (p := ⟨W5.heap.size, 2, none⟩) (Nat.le_refl _) (.slice ra rn rc)).setCell (p := ⟨W5.heap.size, 3, none⟩) (Nat.le_refl _) (.slice sa sn sc))
  clear hbo hb7 k9 qfz hC' d0 d1 d2 d3 e0 e1 e2 e3 e4 e5 e6
  go_wp2_with fail
  have HK14 : ∃ bs : Array Value, Hid (((((W7.setCell ⟨W5.heap.size, 0, none⟩ (.slice pa pn pc)).setCell ⟨W5.heap.size, 1, none⟩ (.slice qa qn qc)).setCell ⟨W5.heap.size, 2, none⟩ (.slice ra rn rc)).setCell ⟨W5.heap.size, 3, none⟩ (.slice sa sn sc)).heap[W5.heap.size + 1 + 1]? = some (.cells bs 69 (0, 0)) ∧ ∀ k : Nat, k < 40 → bs[k]? = some (.bool (us.contains (k : Int)))) := by
    obtain ⟨bs, k14, hs, hbs⟩ := HFS.out.k14
    refine ⟨bs, Lib.hid ⟨?_, hbs⟩⟩
    rw [set_ne _ _ _ (by simp; omega), set_ne _ _ _ (by simp; omega), set_ne _ _ _ (by simp; omega), set_ne _ _ _ (by simp; omega)]
    exact block_below k14 HB7k.out (Array.getElem?_eq_some_iff.1 k14).1
  obtain ⟨bs, HK14⟩ := HK14
  clear q0 q1 q2 q3 z0 z1 z2 z3 HK9 HBK HB7k
  have HFI := Lib.hid HFS.out.fi
  have HBWc := Lib.hid (HBW6.out.trans (HB7.out.mono HBW5s))
  clear HFS HF0 HB7
  generalize ((((W7.setCell ⟨W5.heap.size, 0, none⟩ (.slice pa pn pc)).setCell ⟨W5.heap.size, 1, none⟩ (.slice qa qn qc)).setCell ⟨W5.heap.size, 2, none⟩ (.slice ra rn rc)).setCell ⟨W5.heap.size, 3, none⟩ (.slice sa sn sc)) = W8 at *
  refine (free_any ⟨⟨pa, pn, pc⟩, ⟨qa, qn, qc⟩, ⟨ra, rn, rc⟩, ⟨sa, sn, sc⟩⟩ (fB up down ids (fL up down u d ids us)) 2 3 _ HBO.out (f_bkB HFI.out) (fun k hk _ => by
    have hk0 : k = 0 := by simpa [fB] using hk
    subst hk0
    exact f_freeB HFI.out)).mono ?_
  rw [f_free HFI.out]
  rintro e W9 ⟨⟨⟨ga, gn, gc⟩, ⟨ha, hn, hc⟩, ⟨ia, i_n, ic⟩, ⟨ja, jn, jc⟩⟩, rfl, hm9, hb89⟩
  clear HBO
  obtain ⟨W10, hW10⟩ : ∃ W10, W9.alloc (.cells #[.slice ga gn gc, .slice ha hn hc, .slice ia i_n ic, .slice ja jn jc] 32) = W10 := ⟨_, rfl⟩
  have hb910 : Below W9.heap.size W9 W10 := by rw [← hW10]; exact (Below.refl _ _).alloc (Nat.le_refl _) _
  have HK21 : Hid (W10.heap[W9.heap.size]? = some (.cells #[.slice ga gn gc, .slice ha hn hc, .slice ia i_n ic, .slice ja jn jc] 32 (0, 0))) := Lib.hid (by rw [← hW10]; exact heap_alloc_new _ _)
  have HM10 : Hid (BkM W10 ⟨⟨ga, gn, gc⟩, ⟨ha, hn, hc⟩, ⟨ia, i_n, ic⟩, ⟨ja, jn, jc⟩⟩ (fC u d ids us)) := Lib.hid (BkM.keep hm9 hb910 (Nat.le_refl _))
  have hb810 := hb89.trans (hb910.mono hb89.size)
  have HK14' := Lib.hid (And.intro (block_below HK14.out.1 hb810 (Array.getElem?_eq_some_iff.1 HK14.out.1).1) HK14.out.2)
  have HBW10 := Lib.hid (HBWc.out.trans (hb810.mono HBWc.out.size))
  have HW10 := Lib.hid hW10
  clear HK14 HBWc hm9 hb89 hb910 hb810 hW10 HBW6
  obtain ⟨f0, f1, f2, f3, hx9⟩ := four_cells HK21.out
  clear hx9
  go_upto_region 27 with fail
  rw [HW10.out]
  generalize W9.heap.size = p21 at *
  go_wp2_with fail
  refine (free_any ⟨⟨ga, gn, gc⟩, ⟨ha, hn, hc⟩, ⟨ia, i_n, ic⟩, ⟨ja, jn, jc⟩⟩ (fC u d ids us) 2 3 _ HM10.out (f_cB HFI.out) (fun k hk _ => absurd hk (Nat.not_lt_zero k))).mono ?_
  rw [f_free2]
  rintro e W11 ⟨⟨⟨ka, kn, kc⟩, ⟨oa, on, oc⟩, ⟨ta, tn, tc⟩, ⟨va, vn, vc⟩⟩, rfl, _, hb11⟩
  obtain ⟨W12, hW12⟩ : ∃ W12, W11.alloc (.cells #[.slice ka kn kc, .slice oa on oc, .slice ta tn tc, .slice va vn vc] 32) = W12 := ⟨_, rfl⟩
  have hb1012 : Below W10.heap.size W10 W12 := by rw [← hW12]; exact hb11.alloc hb11.size _
  have hp21 : p21 < W10.heap.size := (Array.getElem?_eq_some_iff.1 HK21.out).1
  have HK21' := Lib.hid (block_below HK21.out hb1012 hp21)
  have HM12 := Lib.hid (HM10.out.keep hb1012 (Nat.le_refl _))
  have HK14 := Lib.hid (And.intro (block_below HK14'.out.1 hb1012 (Array.getElem?_eq_some_iff.1 HK14'.out.1).1) HK14'.out.2)
  have HBW12 := Lib.hid (HBW10.out.trans (hb1012.mono HBW10.out.size))
  have HW12 := Lib.hid hW12
  clear f0 f1 f2 f3 hb11 hb1012 hW12 HW10 HM10 HK21 HK14' HBW10 hp21
  obtain ⟨f0, f1, f2, f3, hx9⟩ := four_cells HK21'.out
  clear hx9
  go_upto_region 28 with fail
  rw [HW12.out]
  go_wp2_with fail
  refine (find_any ⟨⟨ga, gn, gc⟩, ⟨ha, hn, hc⟩, ⟨ia, i_n, ic⟩, ⟨ja, jn, jc⟩⟩ (fC u d ids us) 2 3 _ HM12.out (f_cB HFI.out)).mono ?_
  rw [f_find]
  rintro e W13 ⟨⟨v1, v2, v3, v4, ⟨v5, v6, v7⟩, ⟨v8, v9, v10⟩, ⟨v11, v12, v13⟩⟩, rfl, _, hb13⟩
  obtain ⟨W14, hW14⟩ : ∃ W14, W13.alloc (.cells #[.int .i64 v1, .int .i64 v2, .int .i64 v3, .int .i64 v4, .slice v5 v6 v7, .slice v8 v9 v10, .slice v11 v12 v13] 45) = W14 := ⟨_, rfl⟩
  have hb1214 : Below W12.heap.size W12 W14 := by rw [← hW14]; exact hb13.alloc hb13.size _
  have hp21 : p21 < W12.heap.size := (Array.getElem?_eq_some_iff.1 HK21'.out).1
  have HK21 := Lib.hid (block_below HK21'.out hb1214 hp21)
  have HM14 := Lib.hid (HM12.out.keep hb1214 (Nat.le_refl _))
  have HK14' := Lib.hid (And.intro (block_below HK14.out.1 hb1214 (Array.getElem?_eq_some_iff.1 HK14.out.1).1) HK14.out.2)
  have HBW14 := Lib.hid (HBW12.out.trans (hb1214.mono HBW12.out.size))
  have HW14 := Lib.hid hW14
  clear f0 f1 f2 f3 hb13 hb1214 hW14 HW12 HM12 HK21' HK14 HBW12 hp21
  obtain ⟨f0, f1, f2, f3, hx9⟩ := four_cells HK21.out
  clear hx9
  go_upto_region 29 with fail
  rw [HW14.out]
  have hmc : SlCt W14 (.slice ga gn gc) [⟨⟨#[97]⟩, 0, 0, 20, 10, 10 - u, 10 - d⟩, ⟨⟨#[98]⟩, 1, -30, 30, 0, 30, 30⟩] := HM14.out.c
  have hgl : gn = 2 := (Sl.lens HM14.out.c).1
  have hjl : jn = us.length := (Sl.lens HM14.out.b).1
  subst hgl hjl
  obtain ⟨pb, po, rfl, hpb, _, _, _, _, _, p5, p6⟩ := SlT.ct (l := [⟨⟨#[97]⟩, 0, 0, 20, 10, 10 - u, 10 - d⟩, ⟨⟨#[98]⟩, 1, -30, 30, 0, 30, 30⟩]) hmc (Below.refl _ _) (Nat.le_refl _) 0 (by simp)
  simp only [List.getElem_cons_zero, Nat.zero_mul, Nat.add_zero] at p5 p6
  have hu := HFI.out.u0
  have hd := HFI.out.d0
  have hu1 := HFI.out.up0
  have hd1' := HFI.out.dn0
  have hlen := HFI.out.len
  have hidz := HFI.out.id
  have i1 : IntKind.i64.wrap (10 - u) = 10 - u := IntWalk.i64_in _ (by omega)
  have i2 : IntKind.i64.wrap (10 - d) = 10 - d := IntWalk.i64_in _ (by omega)
  have i3 : IntKind.i64.wrap (40 - (us.length : Int)) = 40 - us.length := IntWalk.i64_in _ (by omega)
  clear hu hd hu1 hd1' hlen hidz hmc
  go_wp2_with fail
  obtain ⟨fr1, fr2, fr3⟩ := f_pool HFI.out
  have hnf : (fF ids us).length < 1000000 := (f_cB HFI.out).nf
  refine (rlen_any (.slice ha hn hc) (fF ids us) _ HM14.out.f fr1.1 hnf).mono ?_
  rw [fr2]
  rintro e W15 ⟨rfl, hb15⟩
  have HFR := Lib.hid fr3
  clear fr1 fr2 fr3 hnf
  have HK21' := Lib.hid (block_below HK21.out hb15 (Array.getElem?_eq_some_iff.1 HK21.out).1)
  have HM15 := Lib.hid (HM14.out.keep hb15 (Nat.le_refl _))
  have HK14 := Lib.hid (And.intro (block_below HK14'.out.1 hb15 (Array.getElem?_eq_some_iff.1 HK14'.out.1).1) HK14'.out.2)
  have HBW15 := Lib.hid (HBW14.out.trans (hb15.mono HBW14.out.size))
  clear f0 f1 f2 f3 hb15 HM14 HK21 HK14' HBW14 HW14 p5 p6
  go_wp2
  go_loopw [27] (fun v27 wr => ∃ k : Nat, k ≤ 40 ∧ v27 = .int .i64 k ∧ Below W15.heap.size W15 wr) (fun v27 _ => 40 - (intOf v27).toNat)
  case atStart => exact ⟨0, by omega, rfl, Below.refl _ _⟩
  case round =>
    obtain ⟨k, hk, rfl, hb⟩ := hrel
    by_cases hlt : k < 40
    · have k40 : (k : Int) < 40 := by omega
      have iw : IntKind.i64.wrap ((k : Int) + 1) = (k : Int) + 1 := IntWalk.i64_in _ (by omega)
      have hhas : hasR (fF ids us) k = !(us.contains (k : Int)) := by
        rw [Bool.eq_iff_iff, hasR_iff, HFR.out]
        simp
        omega
      have KS : Hid (∀ V, Below W15.heap.size W15 V → (Below W15.heap.size W15 V ∧ V.cell? ⟨p21, 1, none⟩ = some (.slice ha hn hc) ∧ V.cell? ⟨W5.heap.size + 1 + 1, k, none⟩ = some (.bool (us.contains (k : Int))))) := Lib.hid (fun V hV => by
        obtain ⟨_, a1, _, _, _⟩ := four_cells (block_below HK21'.out hV (Array.getElem?_eq_some_iff.1 HK21'.out).1)
        have h14 := block_below HK14.out.1 hV (Array.getElem?_eq_some_iff.1 HK14.out.1).1
        exact ⟨hV, a1, by simp [World.cell?, h14, HK14.out.2 k hlt]⟩)
      have HPL : Hid (∀ V, Below W15.heap.size W15 V → Calls Try.prog 25 #[.slice ha hn hc, .int .i64 k] V fun e w' => e = .returned (.bool (!(us.contains (k : Int)))) ∧ Below W15.heap.size W15 w') :=
        Lib.hid (fun V hV => (rhas_any (.slice ha hn hc) (fF ids us) k V (SlT.keep HM15.out.f hV (Nat.le_refl _))).mono (fun e w' hh => by
          obtain ⟨h1, h2⟩ := hh
          subst h2
          exact ⟨by rw [h1, hhas], hV⟩))
      have HXB := Lib.hid (Below.refl W15.heap.size W15)
      have hbool : ((!(us.contains (k : Int))) == us.contains (k : Int)) = false := by cases us.contains (k : Int) <;> rfl
      obtain ⟨_, f1, c14⟩ := KS.out _ hb
      generalize us.contains (k : Int) = cb at *
      clear HM15 HK14 HFR HFI hhas
      go_upto_region 34 with fail
      go_region_held3 (fun w' => Below W15.heap.size W15 w' ∧ w'.cell? ⟨p21, 1, none⟩ = some (.slice ha hn hc) ∧ w'.cell? ⟨W5.heap.size + 1 + 1, k, none⟩ = some (.bool cb))
        (first | assumption | exact KS.out _ (by assumption) | exact KS.out _ hb.drew)
        ((go_at_call 25; (with_reducible refine (HPL.out _ (by go_split_ands; assumption)).mono ?_); rintro en w9 ⟨rfl, hb9⟩))
      all_goals
        go_wp2
        go_roundw
        case rel => exact ⟨k + 1, by omega, by go_num, by first | assumption | exact hb.drew⟩
        case measure => simp [intOf]; omega
    · have k40 : ¬ (k : Int) < 40 := by omega
      obtain ⟨f0, f1, f2, f3, hx9⟩ := four_cells (block_below HK21'.out hb (Array.getElem?_eq_some_iff.1 HK21'.out).1)
      clear hx9
      have HMX := Lib.hid (HM15.out.keep hb (Nat.le_refl _))
      have HBX := Lib.hid (HBW15.out.trans (hb.mono HBW15.out.size))
      clear HM15 HBW15 HK21' HK14
      go_wp2_with fail
      refine (sound_any ⟨⟨_, _, gc⟩, ⟨ha, hn, hc⟩, ⟨ia, i_n, ic⟩, ⟨ja, _, jc⟩⟩ (fC u d ids us) _ HMX.out (f_sndB HFI.out)).mono ?_
      rw [f_snd HFI.out]
      rintro e W16 ⟨rfl, hb16⟩
      have HFIN := Lib.hid (HBX.out.trans (hb16.mono HBX.out.size))
      clear hb16 f0 f1 f2 f3
      go_wp2
      go_ret
      exact ⟨rfl, HFIN.out⟩

end Go.Proofs.Ytckonmlcgfbojaa
