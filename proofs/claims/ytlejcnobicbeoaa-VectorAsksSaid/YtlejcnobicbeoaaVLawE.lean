/- The walk of the law VectorAsks. -/
import Derived.Test.YtlejcnobicbeoaaVLawF
namespace Go.Proofs.Ytlejcnobicbeoaa
open Go.RowKit

theorem within_still (a n : Int) (w : World) (hn : 0 < n) (hn2 : n ≤ 4611686018427387904) :
    Calls Try.prog 14 #[.int .i64 a, .int .i64 n] w fun e w' => e = .returned (.int .i64 (a % n)) ∧ w' = w :=
  (within_any a n w hn hn2).mono fun _ _ ⟨h1, h2⟩ => ⟨h1, h2.symm⟩

theorem rget_behind {w0 : World} {v : Value} {l : List En} (h : SlE w0 v l) (d e g : Int) (hl : l.length < 1000000) (hg : getV l d e = g) :
    ∀ W, Below w0.heap.size w0 W → Calls Try.prog 19 #[v, .int .i64 d, .int .i64 e] W fun en w' => en = .returned (.int .i64 g) ∧ Below w0.heap.size w0 w' := by
  intro W hW
  subst hg
  exact (rget_any v l d e W (h.keep hW (Nat.le_refl _)) hl).mono fun _ _ ⟨h1, h2⟩ => ⟨h1, h2 ▸ hW⟩
theorem rhas_behind {w0 : World} {v : Value} {l : List En} (h : SlE w0 v l) (hl : l.length < 1000000) (d e s : Int) (b : Bool) (hb : hasV l d e s = b) :
    ∀ W, Below w0.heap.size w0 W → Calls Try.prog 20 #[v, .agg #[.int .i64 d, .int .i64 e, .int .i64 s]] W fun en w' => en = .returned (.bool b) ∧ Below w0.heap.size w0 w' := by
  intro W hW
  subst hb
  exact (rhas_any v l d e s W (h.keep hW (Nat.le_refl _)) hl).mono fun _ _ ⟨h1, h2⟩ => ⟨h1, hW.trans (h2.mono hW.size)⟩
theorem rle_behind {w0 : World} {v v' : Value} {l l' : List En} (h : SlE w0 v l) (h' : SlE w0 v' l') (hl : l'.length < 1000000) (b : Bool) (hb : leV l l' = b) :
    ∀ W, Below w0.heap.size w0 W → Calls Try.prog 22 #[v, v'] W fun en w' => en = .returned (.bool b) ∧ Below w0.heap.size w0 w' := by
  intro W hW
  subst hb
  exact (rle_any v v' l l' W (h.keep hW (Nat.le_refl _)) (h'.keep hW (Nat.le_refl _)) hl).mono fun _ _ ⟨h1, h2⟩ => ⟨h1, hW.trans (h2.mono hW.size)⟩
theorem join_behind {w0 : World} {v v' : Value} {l l' : List En} (h : SlE w0 v l) (h' : SlE w0 v' l') (hl : l.length + l'.length < 1000000) :
    ∀ W, Below w0.heap.size w0 W → Calls Try.prog 13 #[v, v'] W fun en w' => ∃ u, en = .returned u ∧ SlE w' u (joinS l l') ∧ Below w0.heap.size w0 w' ∧ Below W.heap.size W w' := by
  intro W hW
  exact (join_any v v' l l' W (h.keep hW (Nat.le_refl _)) (h'.keep hW (Nat.le_refl _)) hl).mono fun _ _ ⟨u, h1, h2, h3⟩ => ⟨u, h1, h2, hW.trans (h3.mono hW.size), h3⟩
theorem rjoin_behind {w0 : World} {v v' : Value} {l l' j : List En} (h : SlE w0 v l) (h' : SlE w0 v' l') (hl : l.length + l'.length < 1000000) (hj : joinR l l' = j) :
    ∀ W, Below w0.heap.size w0 W → Calls Try.prog 21 #[v, v'] W fun en w' => ∃ u, en = .returned u ∧ SlE w' u j ∧ Below w0.heap.size w0 w' ∧ Below W.heap.size W w' := by
  intro W hW
  subst hj
  exact (rjoin_any v v' l l' W (h.keep hW (Nat.le_refl _)) (h'.keep hW (Nat.le_refl _)) hl).mono fun _ _ ⟨u, h1, h2, h3⟩ => ⟨u, h1, h2, hW.trans (h3.mono hW.size), h3⟩
/-- same of what is there now, told behind a world. -/
theorem same_now {w0 W : World} {v v' : Value} {l : List En} (hW : Below w0.heap.size w0 W) (h : SlE W v l) (h' : SlE W v' l) :
    Calls Try.prog 18 #[v, v'] W fun en w' => en = .returned (.bool true) ∧ Below w0.heap.size w0 w' :=
  (same_any v v' l l W h h').mono fun _ _ ⟨h1, h2⟩ => ⟨by rw [h1]; simp, hW.trans (h2.mono hW.size)⟩

theorem three_free {w : World} {b : Nat} {x y z : Value} {t : TypeId} (h : w.heap[b]? = some (.cells #[x, y, z] t (0, 0))) :
    w.frozen? ⟨b, 0, none⟩ = false ∧ w.frozen? ⟨b, 1, none⟩ = false ∧ w.frozen? ⟨b, 2, none⟩ = false := by
  refine ⟨?_, ?_, ?_⟩ <;> simp [World.frozen?, h]
theorem set_three {w : World} {b : Nat} {x y z : Value} {t : TypeId} (h : w.heap[b]? = some (.cells #[x, y, z] t (0, 0))) (x' y' z' : Value) :
    (((w.setCell ⟨b, 0, none⟩ x').setCell ⟨b, 1, none⟩ y').setCell ⟨b, 2, none⟩ z').heap[b]? = some (.cells #[x', y', z'] t (0, 0)) := by
  simp [World.setCell, Array.getElem?_modify, h]

/-- What the law asks, of a dot, from the place on where it is read. -/
def AskPost (w : World) (e : Ending) (w' : World) : Prop := e = .returned (.bool true) ∧ Below w.heap.size w w'

set_option maxRecDepth 100000 in
set_option maxHeartbeats 8000000 in
theorem asks_walk (v v' : Value) (ns ns' : List Int) (x0 x1 x2 : Int) (small : Bool) (w : World) (h : SlI w v ns) (h' : SlI w v' ns') (hI : I64 ns) (hI' : I64 ns')
    (hx0 : -9223372036854775808 ≤ x0 ∧ x0 ≤ 9223372036854775807) (hx1 : -9223372036854775808 ≤ x1 ∧ x1 ≤ 9223372036854775807) (hx2 : -9223372036854775808 ≤ x2 ∧ x2 ≤ 9223372036854775807) :
    Calls Try.prog 7 #[v, v', .agg #[.int .i64 x0, .int .i64 x1, .int .i64 x2], .bool small] w fun e w' => e = .returned (.bool true) ∧ Below w.heap.size w w' := by
  have hok := (ofS_ok ns).1
  have hok' := (ofS_ok ns').1
  have hlen := ofS_len ns
  have hlen' := ofS_len ns'
  have hb00 : Below w.heap.size w (w.alloc (.cells #[.int .i64 x0, .int .i64 x1, .int .i64 x2] 30)) := (Below.refl _ _).alloc (Nat.le_refl _) _
  have hnew := heap_alloc_new w (.cells #[.int .i64 x0, .int .i64 x1, .int .i64 x2] 30)
  have hz00 : w.heap.size < (w.alloc (.cells #[.int .i64 x0, .int .i64 x1, .int .i64 x2] 30)).heap.size := by simp
  have HNEW := Lib.hid hnew
  clear hnew
  have HPO : Hid (∀ e W, AskPost w e W → e = .returned (.bool true) ∧ Below w.heap.size w W) := fun _ _ hh => hh
  go_enter Try.func7, Try.ntmps7
  go_wp2_with fail
  refine (known_any _).mono ?_
  rintro e w0 ⟨rfl, hb0⟩
  have hb1 := hb00.trans (hb0.mono hb00.size)
  have HN0 := Lib.hid (three_below HNEW.out hb0 hz00)
  have hz0 : w.heap.size < w0.heap.size := Nat.lt_of_lt_of_le hz00 hb0.size
  clear hb0 HNEW hb00 hz00
  go_wp2_with fail
  refine (of_fresh _ _ _ (h.keep hb1 (Nat.le_refl _)) hI).mono ?_
  rintro e w1 ⟨va, rfl, hsa, hfa, hb2⟩
  have hfa : Fresh (w.heap.size + 1) va := fun g hg => Nat.le_trans hz0 (hfa g hg)
  have HN1 := Lib.hid (three_below HN0.out hb2 hz0)
  have hz1 : w.heap.size < w1.heap.size := Nat.lt_of_lt_of_le hz0 hb2.size
  have hbw := hb1.trans (hb2.mono hb1.size)
  clear hb1 hb2 h HN0 hz0
  go_wp2_with fail
  refine (of_fresh _ _ _ (h'.keep hbw (Nat.le_refl _)) hI').mono ?_
  rintro e w2 ⟨vb, rfl, hsb, hfb, hb2⟩
  have hfb : Fresh (w.heap.size + 1) vb := fun g hg => Nat.le_trans hz1 (hfb g hg)
  have HN2 := Lib.hid (three_below HN1.out hb2 hz1)
  have hz2 : w.heap.size < w2.heap.size := Nat.lt_of_lt_of_le hz1 hb2.size
  have hsa2 := hsa.keep hb2 (Nat.le_refl _)
  have hbw2 := hbw.trans (hb2.mono hbw.size)
  clear hb2 hsa hbw h' HN1 hz1
  generalize ofS ns = l at *
  generalize ofS ns' = l' at *
  have hbsw := hbw2.size
  go_upto_if 21 with fail
  go_cut [] (fun wx => ∃ y0 y1 y2 : Int, wx.heap[w.heap.size]? = some (.cells #[.int .i64 y0, .int .i64 y1, .int .i64 y2] 30 (0, 0)) ∧ SlE wx va l ∧ SlE wx vb l' ∧ Below w.heap.size w wx ∧ w.heap.size < wx.heap.size)
  case first =>
    cases small with
    | false =>
      go_wp2
      go_meet
      exact ⟨x0, x1, x2, HN2.out, hsa2, hsb, hbw2, hz2⟩
    | true =>
      obtain ⟨c0, c1, c2, hbs⟩ := three_cells HN2.out
      go_wp2
      refine wp_region_still_tail 10 (by kernel_rfl) (by kernel_rfl) ?_
      simp only [List.take_succ_cons, List.take_zero, List.drop_succ_cons, List.drop_zero]
      repeat (first | still_call (within_still _ _ _ (by decide) (by decide)) | still_step)
      refine wpStill_nil ?_
      change wpList _ _ _ _ _ w2.drew
      have hb3 : Below w.heap.size w w2.drew := hbw2.drew
      have HN3 : Hid (w2.drew.heap[w.heap.size]? = some (.cells #[.int .i64 x0, .int .i64 x1, .int .i64 x2] 30 (0, 0))) := HN2.out
      have hsa3 : SlE w2.drew va l := hsa2.keep (Below.refl w2.heap.size w2).drew (Nat.le_refl _)
      have hsb3 : SlE w2.drew vb l' := hsb.keep (Below.refl w2.heap.size w2).drew (Nat.le_refl _)
      have hz3 : w.heap.size < w2.drew.heap.size := hz2
      generalize w2.drew = w3 at *
      clear hsa2 hsb hbw2 HN2 c0 c1 c2 hbs hbsw hz2
      obtain ⟨c0, c1, c2, hbs⟩ := three_cells HN3.out
      obtain ⟨f0, f1, f2⟩ := three_free HN3.out
      go_wp2
      go_meet
      refine ⟨_, _, _, set_three HN3.out _ _ _, ((hsa3.setCell hfa _ ?_ _).setCell hfa _ ?_ _).setCell hfa _ ?_ _, ((hsb3.setCell hfb _ ?_ _).setCell hfb _ ?_ _).setCell hfb _ ?_ _, ((hb3.setCell (Nat.le_refl _) _).setCell (Nat.le_refl _) _).setCell (Nat.le_refl _) _, by simpa using hz3⟩
      all_goals exact Nat.lt_succ_self _
  case rest =>
  obtain ⟨d, e, s, hn, hsa3, hsb3, hbw3, hz3⟩ := hcut
  clear hsa2 hsb hbw2 HN2 hbsw hz2 hfa hfb
  have hzw3 := hbw3.size
  obtain ⟨c0, c1, c2, hbs⟩ := three_cells hn
  have HN := Lib.hid hn
  clear hn
  obtain ⟨st, hst⟩ : ∃ st, stepS l d e s = st := ⟨_, rfl⟩
  have HS1 := Lib.hid (step_any va l d e s wc hsa3 (by omega))
  rw [hst] at HS1
  have hst2 : stepV l d e s = st := by rw [← stepS_eq hok]; exact hst
  have hstl : st.1.length < 1000000 := by have := stepV_len l d e s; rw [hst2] at this; omega
  clear hst
  have HS2 := Lib.hid hst2
  clear hst2
  obtain ⟨st1, st2⟩ := st
  simp only at hstl
  go_wp2_with fail
  refine HS1.out.mono ?_
  rintro en w4 ⟨vx, rfl, hsx, hb4⟩
  obtain ⟨c0', c1', c2', hbs'⟩ := three_cells (three_below HN.out hb4 hbs)
  have HN4 := Lib.hid (three_below HN.out hb4 hbs)
  have hsa4 := hsa3.keep hb4 (Nat.le_refl _)
  have hsb4 := hsb3.keep hb4 (Nat.le_refl _)
  have hbw4 := hbw3.trans (hb4.mono hzw3)
  clear hb4 hsa3 hsb3 hbw3 c0 c1 c2 hbs HN HS1
  have HS3 := Lib.hid (rstep_any va l d e s w4 hsa4 (by omega))
  rw [HS2.out] at HS3
  go_wp2_with fail
  refine HS3.out.mono ?_
  rintro en w5 ⟨vy, rfl, hsy, hb5⟩
  obtain ⟨c0, c1, c2, hbs⟩ := three_cells (three_below HN4.out hb5 hbs')
  have hsa5 := hsa4.keep hb5 (Nat.le_refl _)
  have hsb5 := hsb4.keep hb5 (Nat.le_refl _)
  have hsx5 := hsx.keep hb5 (Nat.le_refl _)
  have hbw5 := hbw4.trans (hb5.mono hbw4.size)
  have hz5 := hbw5.size
  clear hb5 hsa4 hsb4 hbw4 c0' c1' c2' hbs' HN4 HS3 HS2 hsx
  have HSM := Lib.hid (same_behind hsx5 hsy true (by simp))
  obtain ⟨gg, hgg⟩ : ∃ gg, getV l d e = gg := ⟨_, rfl⟩
  have HG1 := Lib.hid (get_behind hsa5 (by omega) d e gg (by rw [getL_eq hok]; exact hgg))
  have HG2 := Lib.hid (rget_behind hsa5 d e gg (by omega) hgg)
  obtain ⟨bb, hbb⟩ : ∃ bb, hasV l d e s = bb := ⟨_, rfl⟩
  have HH1 := Lib.hid (has_behind hsa5 (by omega) d e s bb (by rw [hasL_eq hok]; exact hbb))
  have HH2 := Lib.hid (rhas_behind hsa5 (by omega) d e s bb hbb)
  obtain ⟨be, hbe⟩ : ∃ be, leV l l' = be := ⟨_, rfl⟩
  have HE1 := Lib.hid (le_behind hsa5 hsb5 (by omega) be (by rw [leL_eq hok']; exact hbe))
  have HE2 := Lib.hid (rle_behind hsa5 hsb5 (by omega) be hbe)
  have HJ1 := Lib.hid (join_behind hsa5 hsb5 (by omega))
  have HJ2 := Lib.hid (rjoin_behind hsa5 hsb5 (by omega) (joinR_eq hok hok'))
  generalize joinS l l' = j at *
  clear hgg hbb hbe hsa5 hsb5 hsx5 hsy hok hok'
  have KS : Hid (∀ W, Below w5.heap.size w5 W → (Below w5.heap.size w5 W ∧ W.cell? ⟨w.heap.size, 0, none⟩ = some (.int .i64 d) ∧ W.cell? ⟨w.heap.size, 1, none⟩ = some (.int .i64 e) ∧ W.cell? ⟨w.heap.size, 2, none⟩ = some (.int .i64 s))) :=
    fun W hW => ⟨hW, cell_behind c0 hbs W hW, cell_behind c1 hbs W hW, cell_behind c2 hbs W hW⟩
  clear c0 c1 c2
  go_upto_region 8 with fail
  go_cut [8] (fun v8 wx => v8 = .bool true ∧ Below w5.heap.size w5 wx)
  case first =>
    first
      | (go_region_held3 (fun w' => Below w5.heap.size w5 w' ∧ w'.cell? ⟨w.heap.size, 0, none⟩ = some (.int .i64 d) ∧ w'.cell? ⟨w.heap.size, 1, none⟩ = some (.int .i64 e) ∧ w'.cell? ⟨w.heap.size, 2, none⟩ = some (.int .i64 s))
          (first | assumption | exact KS.out _ (by assumption) | exact KS.out _ (Below.refl _ _).drew)
          (first
            | (go_at_call 18; (with_reducible refine (HSM.out _ (by go_split_ands; assumption)).mono ?_); rintro en w9 ⟨rfl, hb9⟩)
            | (go_at_call 11; (with_reducible refine (HG1.out _ (by go_split_ands; assumption)).mono ?_); rintro en w9 ⟨rfl, hb9⟩)
            | (go_at_call 19; (with_reducible refine (HG2.out _ (by go_split_ands; assumption)).mono ?_); rintro en w9 ⟨rfl, hb9⟩)
            | (go_at_call 12; (with_reducible refine (HH1.out _ (by go_split_ands; assumption)).mono ?_); rintro en w9 ⟨rfl, hb9⟩)
            | (go_at_call 20; (with_reducible refine (HH2.out _ (by go_split_ands; assumption)).mono ?_); rintro en w9 ⟨rfl, hb9⟩)
            | (go_at_call 16; (with_reducible refine (HE1.out _ (by go_split_ands; assumption)).mono ?_); rintro en w9 ⟨rfl, hb9⟩)
            | (go_at_call 22; (with_reducible refine (HE2.out _ (by go_split_ands; assumption)).mono ?_); rintro en w9 ⟨rfl, hb9⟩)
            | (go_at_call 13; (with_reducible refine (HJ1.out _ (by go_split_ands; assumption)).mono ?_); rintro en w9 ⟨uj, rfl, hsj, hb9, hbx⟩; (try have hsr2 := hsr.keep hbx (Nat.le_refl _)))
            | (go_at_call 21; (with_reducible refine (HJ2.out _ (by go_split_ands; assumption)).mono ?_); rintro en w9 ⟨ur, rfl, hsr, hb9, hbx⟩; (try have hsj2 := hsj.keep hbx (Nat.le_refl _)))
            | (go_at_call 18; (with_reducible refine (same_now (w0 := w5) (by go_split_ands; assumption) (by assumption) (by assumption)).mono ?_); rintro en w9 ⟨rfl, hb9⟩)))
      | fail
    all_goals
      go_wp2
      go_meet
      exact ⟨by first | rfl | simp, by first | assumption | exact (Below.refl _ _).drew⟩
  case rest =>
  obtain ⟨rfl, hb9⟩ := hcut
  go_wp2
  go_ret
  exact ⟨rfl, hbw5.trans (hb9.mono hz5)⟩

end Go.Proofs.Ytlejcnobicbeoaa
