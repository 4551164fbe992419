/- The walk of the law TimerSplit. -/
import Derived.Test.YtgjphckjhkdlnaaTLawD
namespace Go.Proofs.Ytgjphckjhkdlnaa
open Go.RowKit

def Tms (M : List Rw) : Prop := ∀ r ∈ M, 0 ≤ r.2 ∧ r.2 < 50
theorem Tms.set {M : List Rw} (h : Tms M) (id tm : Int) (h1 : 0 ≤ tm) (h2 : tm < 50) : Tms (setW M id tm).1 := fun r hr => by
  rcases mem_setW hr with rfl | hr
  · exact ⟨h1, h2⟩
  · exact h r hr

set_option maxRecDepth 100000 in
set_option maxHeartbeats 8000000 in
theorem split_walk (u0 u1 u2 : Value) (ids at_ cuts : List Int) (w : World) (h0 : SlI w u0 ids) (h1 : SlI w u1 at_) (h2 : SlI w u2 cuts) :
    Calls Try.prog 5 #[u0, u1, u2] w fun e w' => e = .returned (.bool true) ∧ Below w.heap.size w w' := by
  obtain ⟨ao0, cap0, rfl, hcap0, hm0⟩ := Sl.shape h0
  obtain ⟨ao1, cap1, rfl, hcap1, hm1⟩ := Sl.shape h1
  obtain ⟨ao2, cap2, rfl, hcap2, hm2⟩ := Sl.shape h2
  go_enter Try.func5, Try.ntmps5
  go_wp2_with fail
  refine (known_any _).mono ?_
  rintro e w0 ⟨rfl, hb0⟩
  go_wp2_with fail
  refine (new_st w w0 hb0).mono ?_
  rintro e w1 ⟨rfl, hs1, _⟩
  generalize w0.heap.size = T1 at *
  go_wp2_with fail
  refine (new_st w w1 hs1.bel).mono ?_
  rintro e w2 ⟨rfl, hs2, hbb⟩
  have hT := hs1.lt
  have h2s : Two w w2 T1 (.slice none 0 0) [] w1.heap.size (.slice none 0 0) [] := ⟨hs1.keep hbb, hs2, by omega, (fun e => by cases e), (fun e => by cases e), fun g e => by cases e⟩
  clear hs1 hs2 hbb hT hb0
  generalize w1.heap.size = T2 at *
  go_upto_block 0 with fail
  go_cut [] (fun wx => ∃ v1 v2 M, Two w wx T1 v1 M T2 v2 M ∧ Tms M)
  case first =>
    go_wp2
    go_loopw [9] (fun vk wr => ∃ (k : Nat) (v1 v2 : Value) (M : List Rw), k ≤ 80 ∧ vk = .int .i64 k ∧ Two w wr T1 v1 M T2 v2 M ∧ Tms M) (fun vk _ => 80 - (intOf vk).toNat)
    case atStart => exact ⟨0, _, _, [], Nat.zero_le _, rfl, h2s, fun r hr => by cases hr⟩
    case round =>
      clear h2s
      obtain ⟨k, v1, v2, M, hk, rfl, hs, hP⟩ := hrel
      by_cases hgo : k < ids.length ∧ k < at_.length ∧ k < 80
      · obtain ⟨hl0, hl1, h80⟩ := hgo
        obtain ⟨b, off, rfl, hbl, hc⟩ := h0.cell hs.one.bel (Nat.le_refl _) k hl0
        obtain ⟨b', off', rfl, hbl', hc'⟩ := h1.cell hs.one.bel (Nat.le_refl _) k hl1
        obtain ⟨x, hx⟩ : ∃ x, ids[k] = x := ⟨_, rfl⟩
        obtain ⟨y, hy⟩ : ∃ y, at_[k] = y := ⟨_, rfl⟩
        rw [hx] at hc
        rw [hy] at hc'
        have HX := Lib.hid hx
        have HY := Lib.hid hy
        clear hx hy
        have q3 := Int.emod_nonneg y (show (50 : Int) ≠ 0 by omega)
        have q4 := Int.emod_lt_of_pos y (show (0 : Int) < 50 by omega)
        have HP := Lib.hid (hP.set (x % 60) (y % 50) q3 q4)
        have hbw := hs.one.bel
        have hzw := hbw.size
        clear hP
        go_wp2
        refine wp_region_still_tail 11 (by kernel_rfl) (by kernel_rfl) ?_
        simp only [List.take_succ_cons, List.take_zero, List.drop_succ_cons, List.drop_zero]
        repeat (first | still_call (within_still _ _ _ (by decide) (by decide)) | still_step)
        refine wpStill_nil ?_
        change wpList _ _ _ _ _ wr.drew
        have hs' := hs.keep (Below.refl wr.heap.size wr).drew
        have hc9 : wr.drew.cell? ⟨b, off + k, none⟩ = some (.int .i64 x) := hc
        have hc9' : wr.drew.cell? ⟨b', off' + k, none⟩ = some (.int .i64 y) := hc'
        have hbb : b < wr.drew.heap.size := by show b < wr.heap.size; omega
        have hbb' : b' < wr.drew.heap.size := by show b' < wr.heap.size; omega
        clear hs hc hc' hbw hzw
        generalize wr.drew = w3 at *
        go_wp2_with fail
        refine (set_st hs'.one (x % 60) (y % 50)).mono ?_
        rintro e w4 ⟨rfl, v1', hst1, hmv1⟩
        have hs4 := hs'.left hmv1 hst1
        obtain ⟨b2, off2, hbe, _, hc⟩ := h0.cell hs4.one.bel (Nat.le_refl _) k hl0
        obtain ⟨b3, off3, hbe', _, hc'⟩ := h1.cell hs4.one.bel (Nat.le_refl _) k hl1
        injection hbe with hbe
        injection hbe with e1 e2 _
        subst e1 e2
        injection hbe' with hbe'
        injection hbe' with e1 e2 _
        subst e1 e2
        rw [HX.out] at hc
        rw [HY.out] at hc'
        clear hc9 hc9' hst1 hmv1 hs'
        go_wp2
        refine wp_region_still_tail 11 (by kernel_rfl) (by kernel_rfl) ?_
        simp only [List.take_succ_cons, List.take_zero, List.drop_succ_cons, List.drop_zero]
        repeat (first | still_call (within_still _ _ _ (by decide) (by decide)) | still_step)
        refine wpStill_nil ?_
        change wpList _ _ _ _ _ w4.drew
        have hs5 := hs4.keep (Below.refl w4.heap.size w4).drew
        clear hs4 hc hc'
        generalize w4.drew = w5 at *
        go_wp2_with fail
        refine (set_st hs5.two (x % 60) (y % 50)).mono ?_
        rintro e w6 ⟨rfl, v2', hst2, hmv2⟩
        have hs6 := hs5.right hmv2 hst2
        clear hs5 hst2 hmv2
        go_wp2
        go_roundw
        case rel => exact ⟨k + 1, v1', v2', _, by omega, by go_num, hs6, HP.out⟩
        case measure => simp [intOf]; omega
      · rcases Nat.lt_or_ge k ids.length with g1 | g1
        · rcases Nat.lt_or_ge k at_.length with g2 | g2
          · have d1 : decide ((k : Int) < 80) = false := by simp; omega
            have d2 : decide (k < 80) = false := by simp; omega
            clear hgo
            go_wp2
            go_meet
            exact ⟨v1, v2, M, hs, hP⟩
          · have d1 : decide (k < at_.length) = false := by simp; omega
            clear hgo
            go_wp2
            go_meet
            exact ⟨v1, v2, M, hs, hP⟩
        · have d1 : decide (k < ids.length) = false := by simp; omega
          clear hgo
          go_wp2
          go_meet
          exact ⟨v1, v2, M, hs, hP⟩
  case rest =>
  clear h2s
  obtain ⟨v1, v2, M, hs, hP⟩ := hcut
  have hall := dueW_all (M := M) (now := 60) (fun r hr => by have := hP r hr; omega)
  have HALL := Lib.hid hall
  go_wp2_with fail
  refine (due_st hs.one 60).mono ?_
  rw [HALL.out]
  rintro e w3 ⟨va, v1', rfl, ho, hs1, hm1, hap⟩
  have h2s := hs.left hm1 hs1
  have hwc := hs.two.lt
  have hKa : ∀ g, va.ownBlock = some g → wc.heap.size ≤ g := owns_ge ho
  have hT1c := hs.one.lt
  have hK : Kept w3.heap.size w3 T1 T2 v1' va (M.map (·.1)) := ⟨hs1.lt, h2s.two.lt, fun g hg => (hs1.blt g hg).2, fun g hg => (ho.lt g hg).2, fun g hg => by have := hKa g hg; omega, _, by simpa using ho⟩
  have hva2 : ∀ g, va.ownBlock = some g → v2.ownBlock ≠ some g := fun g hg e => by have := hKa g hg; have := (hs.two.blt g e).2; omega
  have hlM := hs.one.len
  have hP0 := Lib.hid hP
  clear hs hs1 hm1 hap ho hwc hKa hT1c hP hall
  go_upto_block 2 with fail
  go_cut [11, 12] (fun vl vn wx => ∃ (now c : Int) (v2' : Value), vn = .int .i64 now ∧ 0 ≤ now ∧ now ≤ 140 ∧ c ≤ now ∧ wx.ownsRow w3.heap.size 3 1 vl (dueW M c).1.length (cellsI (dueW M c).1) ∧ Two w wx T1 v1' [] T2 v2' (dueW M c).2 ∧ Kept w3.heap.size wx T1 T2 v1' va (M.map (·.1)) ∧ (∀ g, va.ownBlock = some g → v2'.ownBlock ≠ some g) ∧ (∀ g, vl.ownBlock = some g → v2'.ownBlock ≠ some g) ∧ w3.heap.size ≤ wx.heap.size)
  case first =>
    go_wp2
    go_loopw [11, 12, 13] (fun vl vn vi wr => ∃ (k : Nat) (now c : Int) (v2' : Value), k ≤ 20 ∧ vi = .int .i64 k ∧ vn = .int .i64 now ∧ 0 ≤ now ∧ now ≤ 7 * k ∧ c ≤ now ∧ wr.ownsRow w3.heap.size 3 1 vl (dueW M c).1.length (cellsI (dueW M c).1) ∧ Two w wr T1 v1' [] T2 v2' (dueW M c).2 ∧ Kept w3.heap.size wr T1 T2 v1' va (M.map (·.1)) ∧ (∀ g, va.ownBlock = some g → v2'.ownBlock ≠ some g) ∧ (∀ g, vl.ownBlock = some g → v2'.ownBlock ≠ some g) ∧ w3.heap.size ≤ wr.heap.size) (fun _ _ vi _ => 20 - (intOf vi).toNat)
    case atStart =>
      have hn : dueW M (-1) = ([], M) := dueW_none (fun r hr => by have := hP0.out r hr; omega)
      exact ⟨0, 0, -1, v2, Nat.zero_le _, rfl, rfl, by omega, by omega, by omega, by rw [hn]; exact World.ownsRow_nil _ _ _ _, by rw [hn]; exact h2s, hK, hva2, (fun g hg => by cases hg), Nat.le_refl _⟩
    case round =>
      clear h2s hK hva2
      obtain ⟨k, now, c, v2', hk, rfl, rfl, hn0, hn1, hcn, ho, h2s, hK, hva, hvl, hz⟩ := hrel
      by_cases hgo : k < cuts.length ∧ k < 20
      · obtain ⟨hl0, h20⟩ := hgo
        obtain ⟨b, off, rfl, hbl, hc⟩ := h2.cell h2s.one.bel (Nat.le_refl _) k hl0
        generalize cuts[k] = x at *
        have q3 := Int.emod_nonneg x (show (7 : Int) ≠ 0 by omega)
        have q4 := Int.emod_lt_of_pos x (show (0 : Int) < 7 by omega)
        have HCOMP := Lib.hid (dueW_comp M c (now + x % 7) (by omega))
        have hl1 := dueW_len M c
        have hl2 := dueW_len (dueW M c).2 (now + x % 7)
        go_wp2_with fail
        refine (within_any _ 7 _ (by omega) (by omega)).mono ?_
        rintro e w4 ⟨rfl, rfl⟩
        generalize x % 7 = d at *
        go_wp2_with fail
        refine (due_st h2s.two (now + d)).mono ?_
        rintro e w4 ⟨vo, v2'', rfl, hoo, hs2, hm2, hap⟩
        have h2s4 := h2s.right hm2 hs2
        obtain ⟨hK4, hva4⟩ := hK.mv hm2 hva
        have ho4 := owns_mv ho hm2 (fun e => by have := owns_ge ho _ e; have := hK.t2; omega) hvl
        have hvl4 : ∀ g, u11.ownBlock = some g → v2''.ownBlock ≠ some g := fun g hg e => by
          rcases hm2.stay g e with h | h
          · exact hvl g hg h
          · have := (ho.lt g hg).2; omega
        have hz4 : w3.heap.size ≤ w4.heap.size := Nat.le_trans hz hm2.size
        obtain ⟨aoo, capo, rfl, hcapo, _⟩ := owns_shape hoo
        have hrd := Sl.rd (sl_of_owns hoo)
        clear h2s hs2 hm2 hap hK hva ho hvl hz hoo
        go_wp2_with (refine append_Is (o := ⟨some 81, _, _, _, _, _⟩) rfl _ _ rfl w3.heap.size _ _ _ rfl ho4 _ _ _ _ rfl rfl hrd (by omega) hz4 ?_; intro v5 w5 ho5 hg5 hat5)
        have h2s5 := h2s4.grown hg5 (fun g hg => by
          have h1 := owns_ge ho4 g hg
          have h2 := hK4.t1
          have h3 := hK4.t2
          have h4 := h2s4.one.bel.size
          refine ⟨?_, by omega, by omega, fun e => by have := hK4.o1 g e; omega, hvl4 g hg⟩
          have := h2s4.one.ge
          omega)
        have hK5 := hK4.grown hg5 (owns_ge ho4)
        have hvl5 : ∀ g, v5.ownBlock = some g → v2''.ownBlock ≠ some g := fun g hg e => by
          rcases hat5 with h | h
          · exact hvl4 g (h ▸ hg) e
          · rw [h] at hg; injection hg with hg; have := (h2s4.two.blt g e).2; omega
        have hz5 : w3.heap.size ≤ w5.heap.size := Nat.le_trans hz4 hg5.size
        go_wp2
        go_roundw
        case rel =>
          refine ⟨k + 1, now + d, now + d, v2'', by omega, by go_num, rfl, by omega, by omega, by omega, ?_, ?_, hK5, hva4, hvl5, hz5⟩
          · rw [HCOMP.out]; simpa using ho5
          · rw [HCOMP.out]; exact h2s5
        case measure => simp [intOf]; omega
      · rcases Nat.lt_or_ge k cuts.length with g1 | g1
        · have d1 : decide ((k : Int) < 20) = false := by simp; omega
          have d2 : decide (k < 20) = false := by simp; omega
          clear hgo
          go_wp2
          go_meet
          exact ⟨now, c, v2', rfl, hn0, by omega, hcn, ho, h2s, hK, hva, hvl, hz⟩
        · have d1 : decide (k < cuts.length) = false := by simp; omega
          clear hgo
          go_wp2
          go_meet
          exact ⟨now, c, v2', rfl, hn0, by omega, hcn, ho, h2s, hK, hva, hvl, hz⟩
  case rest =>
  clear h2s hK hva2
  obtain ⟨now, c, v2', rfl, hn0, hn1, hcn, ho, h2s, hK, hva, hvl, hz⟩ := hcut
  by_cases hA : now < 60
  · have dA : decide ((60 : Int) ≤ now) = false := by simp; omega
    have hall := dueW_all (M := M) (now := 60) (fun r hr => by have := hP0.out r hr; omega)
    have hcomp := dueW_comp M c (60) (by omega)
    rw [hall] at hcomp
    injection hcomp with hc1 hc2
    have HC1 := Lib.hid hc1
    have HC2 := Lib.hid hc2
    clear hall hc1 hc2
    go_wp2_with fail
    refine (due_st h2s.two (60)).mono ?_
    rintro e w4 ⟨vo, v2'', rfl, hoo, hs2, hm2, hap⟩
    have h2s4 := h2s.right hm2 hs2
    obtain ⟨hK4, hva4⟩ := hK.mv hm2 hva
    have ho4 := owns_mv ho hm2 (fun e => by have := owns_ge ho _ e; have := hK.t2; omega) hvl
    have hvl4 : ∀ g, u11.ownBlock = some g → v2''.ownBlock ≠ some g := fun g hg e => by
      rcases hm2.stay g e with h | h
      · exact hvl g hg h
      · have := (ho.lt g hg).2; omega
    have hz4 : w3.heap.size ≤ w4.heap.size := Nat.le_trans hz hm2.size
    obtain ⟨aoo, capo, rfl, hcapo, _⟩ := owns_shape hoo
    have hrd := Sl.rd (sl_of_owns hoo)
    have hl1 := dueW_len M c
    have hl2 := dueW_len (dueW M c).2 (60)
    clear h2s hs2 hm2 hap hK hva ho hvl hz hoo
    go_wp2_with (refine append_Is (o := ⟨some 87, _, _, _, _, _⟩) rfl _ _ rfl w3.heap.size _ _ _ rfl ho4 _ _ _ _ rfl rfl hrd (by omega) hz4 ?_; intro v5 w5 ho5 hg5 hat5)
    have h2s5 := h2s4.grown hg5 (fun g hg => by
      have h1 := owns_ge ho4 g hg
      have h2 := hK4.t1
      have h3 := hK4.t2
      have h4 := h2s4.one.bel.size
      refine ⟨?_, by omega, by omega, fun e => by have := hK4.o1 g e; omega, hvl4 g hg⟩
      have := h2s4.one.ge
      omega)
    have hK5 := hK4.grown hg5 (owns_ge ho4)
    have hl5 : SlI w5 v5 (M.map (·.1)) := by
      have := sl_of_owns ho5
      rw [← HC1.out] at this
      have e : (dueW M c).1.length + (dueW (dueW M c).2 (60)).1.length = (M.map (·.1)).length := by rw [HC1.out, List.length_append]
      rw [e] at this
      exact this
    obtain ⟨_, hra⟩ := hK5.row
    have HI := Lib.hid (ints_any va v5 _ _ w5 (sl_of_owns hra) hl5)
    simp only [decide_true] at HI
    have h2s6 : Two w w5 T1 v1' [] T2 v2'' [] := by have hh := h2s5; rw [← HC2.out] at hh; exact hh
    clear hat5 hg5 ho5 h2s5 hK5 hl5 hra h2s4 hK4 hva4 ho4 hvl4 hrd hl1 hl2
    go_wp2_with fail
    refine HI.out.mono ?_
    rintro e w6 ⟨rfl, hb6⟩
    have h2s7 := h2s6.keep hb6
    go_wp2_with fail
    refine (len_st h2s7.one).mono ?_
    rintro e w7 ⟨rfl, rfl⟩
    go_wp2_with fail
    refine (len_st h2s7.two).mono ?_
    rintro e w7 ⟨rfl, rfl⟩
    have hb := h2s7.one.bel
    clear h2s6 h2s7 HI hb6
    go_wp2
    go_ret
    exact ⟨rfl, hb⟩
  · have dA : (60 : Int) ≤ now := by omega
    have dB : decide (now < 60) = false := by simpa using hA
    clear hA
    have hall := dueW_all (M := M) (now := now) (fun r hr => by have := hP0.out r hr; omega)
    have hcomp := dueW_comp M c (now) (by omega)
    rw [hall] at hcomp
    injection hcomp with hc1 hc2
    have HC1 := Lib.hid hc1
    have HC2 := Lib.hid hc2
    clear hall hc1 hc2
    go_wp2_with fail
    refine (due_st h2s.two (now)).mono ?_
    rintro e w4 ⟨vo, v2'', rfl, hoo, hs2, hm2, hap⟩
    have h2s4 := h2s.right hm2 hs2
    obtain ⟨hK4, hva4⟩ := hK.mv hm2 hva
    have ho4 := owns_mv ho hm2 (fun e => by have := owns_ge ho _ e; have := hK.t2; omega) hvl
    have hvl4 : ∀ g, u11.ownBlock = some g → v2''.ownBlock ≠ some g := fun g hg e => by
      rcases hm2.stay g e with h | h
      · exact hvl g hg h
      · have := (ho.lt g hg).2; omega
    have hz4 : w3.heap.size ≤ w4.heap.size := Nat.le_trans hz hm2.size
    obtain ⟨aoo, capo, rfl, hcapo, _⟩ := owns_shape hoo
    have hrd := Sl.rd (sl_of_owns hoo)
    have hl1 := dueW_len M c
    have hl2 := dueW_len (dueW M c).2 (now)
    clear h2s hs2 hm2 hap hK hva ho hvl hz hoo
    go_wp2_with (refine append_Is (o := ⟨some 87, _, _, _, _, _⟩) rfl _ _ rfl w3.heap.size _ _ _ rfl ho4 _ _ _ _ rfl rfl hrd (by omega) hz4 ?_; intro v5 w5 ho5 hg5 hat5)
    have h2s5 := h2s4.grown hg5 (fun g hg => by
      have h1 := owns_ge ho4 g hg
      have h2 := hK4.t1
      have h3 := hK4.t2
      have h4 := h2s4.one.bel.size
      refine ⟨?_, by omega, by omega, fun e => by have := hK4.o1 g e; omega, hvl4 g hg⟩
      have := h2s4.one.ge
      omega)
    have hK5 := hK4.grown hg5 (owns_ge ho4)
    have hl5 : SlI w5 v5 (M.map (·.1)) := by
      have := sl_of_owns ho5
      rw [← HC1.out] at this
      have e : (dueW M c).1.length + (dueW (dueW M c).2 (now)).1.length = (M.map (·.1)).length := by rw [HC1.out, List.length_append]
      rw [e] at this
      exact this
    obtain ⟨_, hra⟩ := hK5.row
    have HI := Lib.hid (ints_any va v5 _ _ w5 (sl_of_owns hra) hl5)
    simp only [decide_true] at HI
    have h2s6 : Two w w5 T1 v1' [] T2 v2'' [] := by have hh := h2s5; rw [← HC2.out] at hh; exact hh
    clear hat5 hg5 ho5 h2s5 hK5 hl5 hra h2s4 hK4 hva4 ho4 hvl4 hrd hl1 hl2
    go_wp2_with fail
    refine HI.out.mono ?_
    rintro e w6 ⟨rfl, hb6⟩
    have h2s7 := h2s6.keep hb6
    go_wp2_with fail
    refine (len_st h2s7.one).mono ?_
    rintro e w7 ⟨rfl, rfl⟩
    go_wp2_with fail
    refine (len_st h2s7.two).mono ?_
    rintro e w7 ⟨rfl, rfl⟩
    have hb := h2s7.one.bel
    clear h2s6 h2s7 HI hb6
    go_wp2
    go_ret
    exact ⟨rfl, hb⟩

end Go.Proofs.Ytgjphckjhkdlnaa
