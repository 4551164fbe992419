/- The walk of vector.laid. -/
import Derived.Test.YtlejcnobicbeoaaVWkE
namespace Go.Proofs.Ytlejcnobicbeoaa
open Go.RowKit

theorem max_if (a b : Int) : (if a < b then b else a) = max a b := by split <;> omega

theorem joinS_len (l l' : List En) : (joinS l l').length ≤ l.length + l'.length := by
  induction l' generalizing l with
  | nil => exact Nat.le_refl _
  | cons x t ih =>
    have h1 := ih (insS l x)
    have h2 : ∀ l : List En, (insS l x).length ≤ l.length + 1 := by
      intro l
      induction l with
      | nil => simp [insS]
      | cons y t ih =>
        unfold insS
        split
        · simp only [List.length_cons]; omega
        · split <;> simp only [List.length_cons] <;> omega
    have h3 := h2 l
    show (joinS (insS l x) t).length ≤ _
    simp only [List.length_cons]; omega

/-- After an entry that was there. -/
theorem step_is {w : World} {g cap base i : Nat} {M : List En} {e : En} (ho : w.ownsRow base 27 3 (.slice (some ⟨g, 0, none⟩) M.length cap) M.length (cellsE M)) (hi : i < M.length)
    (hs : insS M e = if true = true then M.set i ((M.getD i (0, 0, 0)).1, (M.getD i (0, 0, 0)).2.1, max (M.getD i (0, 0, 0)).2.2 e.2.2) else M.take i ++ e :: M.drop i) :
    (w.setCell ⟨g, i * 3 + 2, none⟩ (.int .i64 (if M[i].2.2 < e.2.2 then e.2.2 else M[i].2.2))).drew.ownsRow base 27 3 (.slice (some ⟨g, 0, none⟩) M.length cap) (insS M e).length (cellsE (insS M e)) := by
  have h1 := owns_drewN (owns_set ho (i * 3 + 2) (by rw [length_cellsE]; omega) (.int .i64 (if M[i].2.2 < e.2.2 then e.2.2 else M[i].2.2))) 1
  rw [cellsE_set2 M i hi, max_if] at h1
  rw [hs, if_pos rfl]
  have hd : M.getD i (0, 0, 0) = M[i] := by simp [hi]
  rw [hd, List.length_set]
  rw [max_if]
  exact h1

theorem Rd.left {w : World} {ao : Option Addr} {a b : List Value} (h : Rd w ao (a ++ b)) : Rd w ao a := by
  intro j u hu
  have hj : j < a.length := by
    rcases Nat.lt_or_ge j a.length with hh | hh
    · exact hh
    · rw [List.getElem?_eq_none hh] at hu; cases hu
  exact h j u (by rw [List.getElem?_append_left hj]; exact hu)

/-- What is moved up. -/
theorem rd_gap {w : World} {g cap base i : Nat} {M : List En} {e : En} (ho : w.ownsRow base 27 3 (.slice (some ⟨g, 0, none⟩) (M.length + 1) cap) (M.length + 1) (cellsE (M ++ [e]))) (hi : i ≤ M.length) : Rd w (some ⟨g, 0 + i * 3, none⟩) (cellsE (M.drop i)) := by
  have h1 := (Sl.rd (sl_of_owns ho)).at_drop (i * 3)
  rw [cellsE_drop, List.drop_append_of_le_length hi, cellsE_append] at h1
  exact h1.left

/-- After an entry that was not there. -/
theorem step_new {w : World} {g cap base i : Nat} {M : List En} (x y z : Int) (ho : w.ownsRow base 27 3 (.slice (some ⟨g, 0, none⟩) (M.length + 1) cap) (M.length + 1) (cellsE (gapS M i))) (hi : i ≤ M.length)
    {b : Bool} {X : List En} (hb : b = false) (hs : insS M (x, y, z) = if b = true then X else M.take i ++ (x, y, z) :: M.drop i) :
    (((w.setCell ⟨g, i * 3, none⟩ (.int .i64 x)).setCell ⟨g, i * 3 + 1, none⟩ (.int .i64 y)).setCell ⟨g, i * 3 + 2, none⟩ (.int .i64 z)).ownsRow base 27 3 (.slice (some ⟨g, 0, none⟩) (M.length + 1) cap) (insS M (x, y, z)).length (cellsE (insS M (x, y, z))) := by
  subst hb
  have hg := length_gapS M i hi
  have h1 := owns_set ho (i * 3) (by rw [length_cellsE, hg]; omega) (.int .i64 x)
  have h2 := owns_set h1 (i * 3 + 1) (by rw [List.length_set, length_cellsE, hg]; omega) (.int .i64 y)
  have h3 := owns_set h2 (i * 3 + 2) (by rw [List.length_set, List.length_set, length_cellsE, hg]; omega) (.int .i64 z)
  rw [cellsE_set3 _ i (by omega), gapS_set M i hi] at h3
  rw [hs, if_neg (by simp)]
  have hl : (M.take i ++ (x, y, z) :: M.drop i).length = M.length + 1 := by simp; omega
  rw [hl]
  exact h3

set_option maxHeartbeats 4000000 in
set_option maxRecDepth 100000 in
theorem laid_any (v v' : Value) (l l' : List En) (w : World) (h : SlE w v l) (h' : SlE w v' l') (hl : l.length + l'.length < 1000000) :
    Calls Try.prog 24 #[v, v'] w (RetRow w 3 27 (joinS l l').length (cellsE (joinS l l'))) := by
  obtain ⟨ao, cap, rfl, hcap, hm⟩ := Sl.shape h
  obtain ⟨ao', cap', rfl, hcap', hm'⟩ := Sl.shape h'
  obtain ⟨iE, hiE, iz0, iz1, iz2⟩ := info_parts Try.infoE
  have hrdw := Sl.rd h
  go_enter Try.func24, Try.ntmps24
  go_upto_region 2 with (refine wpList_make_len (o := ⟨some 17, _, _, _, _, _⟩) rfl _ _ 24 rfl w.heap.size 27 iE _ 3 24 Try.underlying24 hiE iz0 iz1 iz2 .i64 .i64 _ _ l.length (l.length + l'.length) rfl rfl rfl (by omega) (by omega) (by omega) (by omega) (Nat.le_refl _) ?_; intro xs w1 ho1 hg1)
  have hb1 : Below w.heap.size w w1 := (Below.refl _ _).grown hg1 (Nat.le_refl _) (fun g hg => by cases hg)
  have hsl1 : Sl w1 3 (.slice ao l.length cap) l.length (cellsE l) := Sl.keep h hb1 (Nat.le_refl _)
  clear hg1
  go_upto_region 3 with (refine wpList_copy_all (o := ⟨some 20, _, _, _, _, _⟩) rfl _ _ _ _ rfl w.heap.size 27 iE 3 Try.underlying24 hiE iz1 _ _ _ _ rfl ho1 _ _ _ rfl hsl1 (cellsE_one _) ?_; intro w2 ho2 hg2)
  have hb2 : Below w.heap.size w w2 := hb1.grown hg2 hb1.size (fun g hg => by injection hg with hg; omega)
  clear hg2 ho1 hsl1 hb1 xs
  go_wp2
  go_loopw [5, 23] (fun v i wr => ∃ k : Nat, k ≤ l'.length ∧ i = .int .i64 k ∧ wr.ownsRow w.heap.size 27 3 v (joinS l (l'.take k)).length (cellsE (joinS l (l'.take k))) ∧ (joinS l (l'.take k)).length ≤ l.length + k ∧ Below w.heap.size w wr) (fun _ i _ => l'.length - (intOf i).toNat)
  case atStart => exact ⟨0, Nat.zero_le _, rfl, ho2, Nat.le_refl _, hb2⟩
  case round =>
    obtain ⟨k, hk, rfl, ho, hjl, hb⟩ := hrel
    clear ho2 hb2
    have hz := hb.size
    rcases Nat.lt_or_ge k l'.length with hlt | hge
    · obtain ⟨b, off, rfl, hbl, hc1, hc2, hc3⟩ := h'.three hb (Nat.le_refl _) k hlt
      have HJ : Hid (joinS l (l'.take (k + 1)) = insS (joinS l (l'.take k)) l'[k]) := by show _ = _; rw [take_snocE l' k hlt, joinS, List.foldl_append]; rfl
      generalize hM : joinS l (l'.take k) = M at *
      have HM := Lib.hid hM
      clear hM
      generalize l'[k]'hlt = r at *
      obtain ⟨x, y, z⟩ := r
      simp only at hc1 hc2 hc3
      go_wp2_with fail
      refine (of_pair x y z _).mono ?_
      rintro en w3 ⟨rfl, hb3⟩
      have HB := Lib.hid (three_below (heap_alloc_new wr (.cells #[.int .i64 x, .int .i64 y, .int .i64 z] 27)) hb3 (by simp))
      have hb4 : Below wr.heap.size wr w3 := ((Below.refl _ _).alloc (Nat.le_refl _) _).trans (hb3.mono (by simp))
      have hz3 : wr.heap.size < w3.heap.size := by have := hb3.size; simp at this; omega
      have hown3 := owns_keep ho hb4 (Nat.le_refl _)
      clear hb3
      have HIS := Lib.hid (insS_at M (x, y, z))
      have HLT := Lib.hid (atS_lt M x y)
      have HC := Lib.hid (at_any u5 M x y w3 (sl_of_owns hown3) (by omega))
      rcases hat : atS M x y with ⟨i, bo⟩
      rw [hat] at HIS HLT HC
      clear hat
      go_wp2_with fail
      refine HC.out.mono ?_
      rintro en w4 ⟨rfl, hb5⟩
      have HB4 := Lib.hid (three_below HB.out hb5 hz3)
      have hown4 := owns_keep hown3 hb5 (Nat.le_refl _)
      have hb6 : Below w.heap.size w w4 := hb.trans ((hb4.mono (Nat.le_of_lt hz3 |> fun _ => hz)).trans (hb5.mono (by omega)))
      have hz4 : wr.heap.size < w4.heap.size := Nat.lt_of_lt_of_le hz3 hb5.size
      have HGL : Hid (∀ g, u5.ownBlock = some g → g < wr.heap.size) := fun g hg => (ho.lt g hg).2
      clear hb4 hb5 hown3 HB HC ho hc1 hc2 hc3 hb
      cases bo with
      | true =>
        have hi := HLT.out.2 rfl
        obtain ⟨g, cap9, rfl⟩ := owns_some hown4 (by omega)
        obtain ⟨hgb, hgs, hn9, hcap9, _, hfz, hcell⟩ := owns_block hown4
        have hd2 := hcell _ _ (cellsE_at M i hi).2.2
        obtain ⟨e0, e1, e2, hbs⟩ := three_cells HB4.out
        have hne : g ≠ wr.heap.size := Nat.ne_of_lt (HGL.out g rfl)
        have hfz2 := hfz (i * 3 + 2)
        clear hcell hfz HGL
        go_wp2
        have hst := step_is hown4 hi HIS.out
        have HST := Lib.hid hst
        clear hst
        generalize M[i].2.2 = m at *
        go_region
        go_wp2
        go_roundw
        case rel => exact ⟨k + 1, by omega, by go_num, by rw [HJ.out]; exact HST.out, Nat.le_trans (joinS_len _ _) (by simp; omega), (hb6.setCell hgb _).drew⟩
        case measure => simp [intOf]; omega
      | false =>
        have HI := Lib.hid HLT.out.1
        clear HLT
        go_upto_region 10 with (refine append_E (o := ⟨some 50, _, _, _, _, _⟩) rfl _ _ rfl w.heap.size _ M.length M rfl (hown4.alloc _) _ _ 0 0 0 rfl (cells_three_at _ _ _ _ _ _ (by first | rfl | simp)) (by omega) (by simp; omega) ?_; intro v5 w5 ho5 hg5 hat5)
        have hb7 : Below w.heap.size w w5 := (hb6.alloc (by omega) _).grown hg5 (by simp; omega) (owns_ge hown4)
        have HB5 : Hid (w5.heap[wr.heap.size]? = some (.cells #[.int .i64 x, .int .i64 y, .int .i64 z] 27 (0, 0))) := by
          show _ = _
          rw [hg5.block wr.heap.size (by simp; omega) (fun e => by have := HGL.out _ e.symm; omega), Below.heap_alloc _ _ _ hz4]; exact HB4.out
        have hz5 : wr.heap.size < w5.heap.size := by have := hg5.size; simp at this; omega
        obtain ⟨g, cap9, rfl⟩ := owns_some ho5 (by omega)
        have hne : g ≠ wr.heap.size := by
          rcases hat5 with hh | hh
          · exact Nat.ne_of_lt (HGL.out g hh.symm)
          · simp [Value.ownBlock] at hh; omega
        obtain ⟨hgb, hgs, hn9, hcap9, _, hfz, _⟩ := owns_block ho5
        clear hg5 hat5 hown4 HB4 HGL hb6
        have hrd9 := rd_gap ho5 HI.out
        have hI := HI.out
        obtain ⟨ao54, hao54, hrun54⟩ := run_slice_from (P := Try.prog) 24 27 iE 3 Try.underlying24 hiE iz1 g 0 (M.length + 1) cap9 (i + 1) ((i : Int) + 1) (by omega) (by omega) hn9
        obtain ⟨ao57, hao57, hrun57⟩ := run_slice_from (P := Try.prog) 24 27 iE 3 Try.underlying24 hiE iz1 g 0 (M.length + 1) cap9 i (i : Int) rfl (by omega) hn9
        have hwr : IntKind.i64.wrap ((i : Int) + 1) = (i : Int) + 1 := IntWalk.i64_in _ (by omega)
        go_still_tail 7, (by kernel_rfl)
        change wpList _ _ _ _ _ w5.drew
        have hb8 : Below w.heap.size w w5.drew := hb7.drew
        have ho8 : w5.drew.ownsRow w.heap.size 27 3 (.slice (some ⟨g, 0, none⟩) (M.length + 1) cap9) (M.length + 1) (cellsE (M ++ [(0, 0, 0)])) := ho5
        have hrd8 : Rd w5.drew (some ⟨g, 0 + i * 3, none⟩) (cellsE (M.drop i)) := hrd9
        have HB8 : Hid (w5.drew.heap[wr.heap.size]? = some (.cells #[.int .i64 x, .int .i64 y, .int .i64 z] 27 (0, 0))) := HB5
        have hz8 : wr.heap.size < w5.drew.heap.size := hz5
        generalize w5.drew = w8 at *
        clear ho5 hrd9 HB5 hz5 hb7 hrun54 hrun57 hwr
        refine wpList_copy_in (o := ⟨some 58, _, _, _, _, _⟩) rfl _ _ _ _ rfl w.heap.size 27 iE 3 Try.underlying24 hiE iz1 g (M.length + 1) cap9 _ ho8 (i + 1) (M.length - i) _ ao54 rfl ?c1 ?c2 ao57 _ _ (cellsE (M.drop i)) rfl ?c3 ?c4 ?c5 (cellsE_one _) ?_
        case c1 => intro hm; rw [hao54 (by omega)]; simp
        case c2 => omega
        case c3 => omega
        case c4 => rw [length_cellsE, List.length_drop]
        case c5 => intro hm; rw [hao57 (by omega)]; exact hrd8
        intro w9 ho9 hg9
        rw [gapS_cells M i HI.out] at ho9
        have hb9 : Below w.heap.size w w9 := hb8.grown hg9 (by omega) (fun q hq => by injection hq with hq; omega)
        have HB9 := Lib.hid ((hg9.block wr.heap.size hz8 (fun e => by injection e with e; omega)).trans HB8.out)
        have hz9 : wr.heap.size < w9.heap.size := Nat.lt_of_lt_of_le hz8 hg9.size
        clear hg9 HB8 hb8 hz8 hrd8 ho8 hao54 hao57
        have HST := Lib.hid (step_new x y z ho9 HI.out (by simp) HIS.out)
        obtain ⟨hgb, hgs, hn9, hcap9, _, hfz, hcl⟩ := owns_block ho9
        have hgl : i < (gapS M i).length := by rw [length_gapS M i HI.out]; omega
        have k0 := hcl _ _ (cellsE_at (gapS M i) i hgl).1
        have k1 := hcl _ _ (cellsE_at (gapS M i) i hgl).2.1
        have k2 := hcl _ _ (cellsE_at (gapS M i) i hgl).2.2
        generalize (gapS M i)[i] = q at k0 k1 k2
        clear hcl hgl
        obtain ⟨e0, e1, e2, hbs⟩ := three_cells HB9.out
        have f0 := hfz (i * 3)
        have f1 := hfz (i * 3 + 1)
        have f2 := hfz (i * 3 + 2)
        have hI2 : i < M.length + 1 := by omega
        have hgne : ¬ g = wr.heap.size := hne
        clear hfz
        go_wp2
        go_roundw
        case rel => exact ⟨k + 1, by omega, by go_num, by rw [HJ.out]; exact HST.out, Nat.le_trans (joinS_len _ _) (by simp; omega), ((hb9.setCell hgb _).setCell hgb _).setCell hgb _⟩
        case measure => simp [intOf]; omega
    · have hjf : l'.take k = l' := List.take_of_length_le hge
      rw [hjf] at ho
      clear hjf
      obtain ⟨ao9, cap9, rfl, hn9, hc9⟩ := owns_shape ho
      have hrd9 := Sl.rd (sl_of_owns ho)
      have hjl2 := joinS_len l l'
      have ho0 := (World.ownsRow_nil wr w.heap.size 27 3 : wr.ownsRow w.heap.size 27 3 (.slice none 0 0) 0 [])
      go_wp2_with (refine append_Es (o := ⟨some 65, _, _, _, _, _⟩) rfl _ _ rfl w.heap.size _ 0 [] rfl ho0 _ _ _ (joinS l l') rfl rfl hrd9 (by omega) hz ?_; intro v6 w6 ho6 hg6)
      have hb6 : Below w.heap.size w w6 := hb.grown hg6 hz (fun g hg => by cases hg)
      go_wp2
      go_ret
      refine ⟨v6, rfl, ?_, hb6⟩
      simpa using ho6

end Go.Proofs.Ytlejcnobicbeoaa
