/- The walks of the reference's Set and Due. -/
import Derived.Test.YtoiegjfpoamcbaaTRfW
namespace Go.Proofs.Ytoiegjfpoamcbaa
open Go.RowKit

theorem insW_at' (M : List Rw) (r : Rw) (k : Nat) (hk : k ≤ M.length) (h1 : ∀ j, j < k → ltW (rw_ M j) r) (h2 : k < M.length → ¬ ltW (rw_ M k) r) : insW M r = M.take k ++ [r] ++ M.drop k := by
  rw [insW_at M r k hk (fun j hj => by have := h1 j hj; rwa [rw_eq M j (by omega)] at this) (fun hl => by have := h2 hl; rwa [rw_eq M k hl] at this)]
  simp

set_option maxRecDepth 100000 in
set_option maxHeartbeats 8000000 in
theorem rset_any (w : World) (B T : Nat) (v : Value) (M : List Rw) (id tm : Int) (h : Rf w B T v M) (hs : Srt M) (hl : M.length < 1000) :
    Calls Try.prog 9 #[.pointer (some ⟨T, 0, none⟩), .int .i64 id, .int .i64 tm] w (RfPost w B T v (setW M id tm).1 (.int .i64 (setW M id tm).2)) := by
  by_cases hid : id < 0
  · have HS : Hid (setW M id tm = (M, 1)) := by show _ = _; rw [setW, if_pos hid]
    have HH := Lib.hid h
    clear h
    go_enter Try.func9, Try.ntmps9
    go_wp2
    go_ret
    rw [HS.out]
    exact ⟨rfl, v, HH.out, Mv.refl _ _ _⟩
  · have d0 : decide (id < 0) = false := by simpa using hid
    have hc := rcancel_any w B T v M id h hl
    rw [remW_lt hs id] at hc
    have HC := Lib.hid hc
    have hrl : (remW M id).length ≤ M.length := by unfold remW; exact List.length_filter_le _ _
    have HSET : Hid (∀ b, b = (!hasW M id && decide (100 ≤ (remW M id).length)) → setW M id tm = if b then (remW M id, 4) else (insW (remW M id) (id, tm), 0)) := by
      intro b hb
      subst hb
      rw [setW, if_neg hid]
      cases hh : hasW M id with
      | false =>
        rw [remW_none hh]
        by_cases h1 : 100 ≤ M.length <;> simp [h1]
      | true => simp
    clear hc hid h hs
    go_enter Try.func9, Try.ntmps9
    go_wp2_with fail
    refine HC.out.mono ?_
    rintro e w1 ⟨rfl, v1, hr1, hm1⟩
    clear HC
    generalize remW M id = M1 at *
    generalize hasW M id = is at *
    have HR1 := Lib.hid hr1
    obtain ⟨c1, f1⟩ := hr1.cell
    have hT := hr1.lt
    obtain ⟨ao, cap, rfl, hcap, hm⟩ := hr1.row.shape
    go_upto_region 4 with fail
    go_cut [24] (fun b24 wx => wx = w1 ∧ b24 = .bool (!is && decide (100 ≤ M1.length)))
    case first =>
      cases is with
      | true =>
        go_wp2
        go_meet
        exact ⟨rfl, rfl⟩
      | false =>
        go_wp2
        go_meet
        exact ⟨rfl, by simp; omega⟩
    case rest =>
    obtain ⟨rfl, rfl⟩ := hcut
    generalize hbb : (!is && decide (100 ≤ M1.length)) = bb at *
    have hs0 := HSET.out bb rfl
    clear hbb HSET hr1
    cases bb with
    | true =>
      simp only [if_true] at hs0
      have HS := Lib.hid hs0
      clear hs0
      go_wp2
      go_ret
      rw [HS.out]
      exact ⟨rfl, _, HR1.out, hm1⟩
    | false =>
      simp only [Bool.false_eq_true, if_false] at hs0
      have HS := Lib.hid hs0
      clear hs0
      go_upto_block 0 with fail
      go_cut [8] (fun vk wx => wx = wc ∧ ∃ k : Nat, k ≤ M1.length ∧ vk = .int .i64 k ∧ insW M1 (id, tm) = M1.take k ++ [(id, tm)] ++ M1.drop k)
      case first =>
        go_wp2
        go_loop [8] (fun vk => ∃ k : Nat, k ≤ M1.length ∧ vk = .int .i64 k ∧ ∀ j, j < k → ltW (rw_ M1 j) (id, tm)) (fun vk => M1.length - (intOf vk).toNat)
        case atStart => exact ⟨0, Nat.zero_le _, rfl, fun j hj => by omega⟩
        case round =>
          obtain ⟨k, hk, rfl, hj⟩ := hrel
          have HJ := Lib.hid hj
          clear hj
          rcases Nat.lt_or_ge k M1.length with hlt | hge
          · obtain ⟨g, off, cap', he, _, _, hg, _, a1, a2⟩ := HR1.out.two k hlt
            injection he with he _ _
            subst he
            have HRK := Lib.hid (rw_eq M1 k hlt)
            have klt : (k : Int) < M1.length := by omega
            generalize M1[k] = r at *
            obtain ⟨r1, r2⟩ := r
            simp only at a1 a2
            have HSTEP : Hid (ltW (r1, r2) (id, tm) → ∀ j, j < k + 1 → ltW (rw_ M1 j) (id, tm)) := fun hh j hj => by
              by_cases hjk : j = k
              · subst hjk; rw [HRK.out]; exact hh
              · exact HJ.out j (by omega)
            have HSTOP : Hid (¬ ltW (r1, r2) (id, tm) → insW M1 (id, tm) = M1.take k ++ [(id, tm)] ++ M1.drop k) := fun hh =>
              insW_at' M1 _ k hk HJ.out (fun _ => by rw [HRK.out]; exact hh)
            clear HJ HRK
            by_cases g1 : r2 < tm
            · have HT := Lib.hid (HSTEP.out (.inl g1))
              clear HSTEP HSTOP
              go_wp2
              go_round
              case rel => exact ⟨k + 1, by omega, by go_num, HT.out⟩
              case measure => simp [intOf]; omega
            · have e1 : decide (r2 < tm) = false := by simpa using g1
              by_cases g2 : r2 = tm
              · subst g2
                by_cases g3 : r1 < id
                · have HT := Lib.hid (HSTEP.out (.inr ⟨rfl, g3⟩))
                  clear HSTEP HSTOP g1
                  go_wp2
                  go_round
                  case rel => exact ⟨k + 1, by omega, by go_num, HT.out⟩
                  case measure => simp [intOf]; omega
                · have e3 : decide (r1 < id) = false := by simpa using g3
                  have HT := Lib.hid (HSTOP.out (by unfold ltW; simp; omega))
                  clear HSTEP HSTOP g1 g3
                  go_wp2
                  go_meet
                  exact ⟨rfl, k, hk, rfl, HT.out⟩
              · have e2 : (r2 == tm) = false := by simpa using g2
                have HT := Lib.hid (HSTOP.out (by unfold ltW; simp; omega))
                clear HSTEP HSTOP g1 g2
                go_wp2
                go_meet
                exact ⟨rfl, k, hk, rfl, HT.out⟩
          · have e1 : decide (k < M1.length) = false := by simpa using hge
            have HT := Lib.hid (insW_at' M1 (id, tm) k hk HJ.out (fun hh => by omega))
            clear HJ
            go_wp2
            go_meet
            exact ⟨rfl, k, hk, rfl, HT.out⟩
      case rest =>
      obtain ⟨hwx, k, hk, rfl, hins⟩ := hcut
      subst hwx
      have HI := Lib.hid hins
      clear hins
      obtain ⟨i, hi, hz0, hz1, hz2⟩ := info_parts Try.infoW2
      have HZ := Lib.hid hz1
      have HINF := Lib.hid hi
      clear hi hz0 hz1 hz2
      have hrd := HR1.out.row.rd
      have hBT := HR1.out.base
      go_wp2_with (first
        | ((with_reducible refine at_slot 76 ?_); refine wpList_slice_to (o := ⟨some 76, _, _, _, _, _⟩) rfl _ _ _ rfl 55 i 2 Try.underlying42 HINF.out HZ.out _ M1.length cap k (cellsW M1) rfl rfl (by omega) (hrd.alloc _) ?_; intro ao2 hrd2)
        | ((with_reducible refine at_slot 77 ?_); go_loud (refine append_W2 (o := ⟨some 77, _, _, _, _, _⟩) rfl _ _ rfl _ _ 0 [] rfl (owns_lit _ _ _ _ 2 #[] 0 rfl (Nat.le_refl _) (by omega) rfl) ao2 k cap (M1.take k) rfl (by simp; omega) (by rw [← cellsW_take]; exact hrd2) (by omega) (by simp) ?_); intro v3 w3 ho3 hg3 hat3; have b3 : Below wc.heap.size wc w3 := ((Below.refl wc.heap.size wc).alloc (Nat.le_refl _) _).grown hg3 (by first | (simp; done) | (simp; omega)) (fun g hg => (by have hg2 : some wc.heap.size = some g := hg; injection hg2 with hg2; omega)))
        | ((with_reducible refine at_slot 83 ?_); refine append_W2 (o := ⟨some 83, _, _, _, _, _⟩) rfl _ _ rfl wc.heap.size _ (0 + k) ([] ++ M1.take k) rfl (ho3.alloc _) _ 1 1 [(id, tm)] rfl rfl (rd_two_at _ _ _ _ _ (by first | rfl | simp)) (by omega) (by have := b3.size; simp; omega) ?_; intro v4 w4 ho4 hg4 hat4; have b4 : Below wc.heap.size wc w4 := (b3.alloc b3.size _).grown hg4 (by have := b3.size; simp; omega) (owns_ge ho3); have hr4 := HR1.out.keep b4; obtain ⟨c4, f4⟩ := hr4.cell; have rd4 := hr4.row.rd)
        | ((with_reducible refine at_slot 91 ?_); refine wpList_slice_from (o := ⟨some 91, _, _, _, _, _⟩) rfl _ _ _ rfl 55 i 2 Try.underlying42 HINF.out HZ.out _ M1.length cap k (cellsW M1) rfl rfl (by omega) (by omega) rd4 (by rw [length_cellsW]) ?_; intro ao5 rd5)
        | ((with_reducible refine at_slot 92 ?_); refine append_W2 (o := ⟨some 92, _, _, _, _, _⟩) rfl _ _ rfl wc.heap.size _ (0 + k + 1) ([] ++ M1.take k ++ [(id, tm)]) rfl ho4 ao5 (M1.length - k) (cap - k) (M1.drop k) rfl (by simp) (by rw [← cellsW_drop]; exact rd5) (by omega) (by have := b4.size; omega) ?_; intro v5 w5 ho5 hg5 hat5; have b5 : Below wc.heap.size wc w5 := b4.grown hg5 (by have := b4.size; omega) (owns_ge ho4); have hr5 := HR1.out.keep b5; obtain ⟨c5, f5⟩ := hr5.cell; obtain ⟨aov, capv, rfl, _, _⟩ := owns_shape ho5))
      go_ret
      rw [HS.out]
      have e : k + 1 + (M1.length - k) = (insW M1 (id, tm)).length := by rw [HI.out]; simp; omega
      have ho6 := sl_of_owns ho5
      rw [List.nil_append, ← HI.out, Nat.zero_add, e] at ho6
      have hlt := ho5.lt
      rw [Nat.zero_add, e] at hlt
      rw [e]
      obtain ⟨p1, p2⟩ := HR1.out.put b5 ho6 (fun g hg => .inr (hlt g hg))
      refine ⟨?_, _, p1, hm1.trans p2⟩
      rfl

end Go.Proofs.Ytoiegjfpoamcbaa
