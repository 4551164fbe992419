/- The walk of the law TimerSets. -/
import Derived.Test.YtgjphckjhkdlnaaTWkG
namespace Go.Proofs.Ytgjphckjhkdlnaa
open Go.RowKit

theorem one_set (id a : Int) (h : 0 ≤ id) : setW [] id a = ([(id, a)], 0) := by
  rw [setW, if_neg (by omega), if_neg (by simp)]; rfl
theorem one_again (id a b : Int) (h : 0 ≤ id) : setW [(id, a)] id b = ([(id, b)], 0) := by
  rw [setW, if_neg (by omega), if_neg (by simp [hasW])]; simp [remW, insW]
theorem one_rem (id b : Int) : remW [(id, b)] id = [] := by simp [remW]
theorem one_has (id b : Int) : hasW [(id, b)] id = true := by simp [hasW]
theorem one_due (id b now : Int) : dueW [(id, b)] now = if b ≤ now then ([id], []) else ([], [(id, b)]) := by simp [dueW]

set_option maxRecDepth 100000 in
set_option maxHeartbeats 4000000 in
theorem sets_walk (id a b : Int) (cancel : Bool) (w : World) :
    Calls Try.prog 8 #[.int .i64 id, .int .i64 a, .int .i64 b, .bool cancel] w fun e w' => e = .returned (.bool true) ∧ Below w.heap.size w w' := by
  have q1 := Int.emod_nonneg id (show (1000 : Int) ≠ 0 by omega)
  have q2 := Int.emod_lt_of_pos id (show (0 : Int) < 1000 by omega)
  have q3 := Int.emod_nonneg b (show (100 : Int) ≠ 0 by omega)
  have q4 := Int.emod_lt_of_pos b (show (0 : Int) < 100 by omega)
  go_enter Try.func8, Try.ntmps8
  go_wp2_with fail
  refine (known_any _).mono ?_
  rintro e w0 ⟨rfl, hb0⟩
  go_wp2_with fail
  refine (within_any _ 1000 _ (by omega) (by omega)).mono ?_
  rintro e w2 ⟨rfl, rfl⟩
  go_wp2_with fail
  refine (within_any _ 100 _ (by omega) (by omega)).mono ?_
  rintro e w2 ⟨rfl, rfl⟩
  go_wp2_with fail
  refine (within_any _ 100 _ (by omega) (by omega)).mono ?_
  rintro e w2 ⟨rfl, rfl⟩
  generalize id % 1000 = i at *
  generalize a % 100 = x at *
  generalize b % 100 = y at *
  have H1 := Lib.hid (one_set i x q1)
  have H2 := Lib.hid (one_again i x y q1)
  go_wp2_with fail
  refine (new_st w w0 hb0).mono ?_
  rintro e w1 ⟨rfl, hs1, _⟩
  generalize w0.heap.size = T at *
  go_wp2_with fail
  refine (set_st hs1 i x).mono ?_
  rw [H1.out]
  rintro e w2 ⟨rfl, v2, hs2, _⟩
  go_wp2_with fail
  refine (set_st hs2 i y).mono ?_
  rw [H2.out]
  rintro e w3 ⟨rfl, v3, hs3, _⟩
  go_wp2_with fail
  refine (len_st hs3).mono ?_
  rintro e w4 ⟨rfl, rfl⟩
  clear hs1 hs2 H1 H2 hb0
  cases cancel with
  | true =>
    go_wp2_with fail
    refine (cancel_st hs3 i).mono ?_
    rw [one_has, one_rem]
    rintro e w4 ⟨rfl, v4, hs4, _⟩
    go_wp2_with fail
    refine (cancel_st hs4 i).mono ?_
    rw [show hasW [] i = false from rfl, show remW [] i = [] from rfl]
    rintro e w5 ⟨rfl, v5, hs5, _⟩
    go_wp2_with fail
    refine (next_st hs5).mono ?_
    rintro e w6 ⟨rfl, rfl⟩
    go_wp2_with fail
    refine (len_st hs5).mono ?_
    rintro e w6 ⟨rfl, rfl⟩
    go_wp2_with fail
    refine (due_st hs5 1000).mono ?_
    rw [show dueW [] 1000 = ([], []) from rfl]
    rintro e w6 ⟨vo, v6, rfl, ho, hs6, _⟩
    obtain ⟨ao, cap, rfl, _, _⟩ := owns_shape ho
    have hb := hs6.bel
    clear ho hs6 hs5 hs4 hs3
    go_wp2
    go_ret
    exact ⟨rfl, hb⟩
  | false =>
    have D1 := Lib.hid (show dueW [(i, y)] (y - 1) = ([], [(i, y)]) by rw [one_due, if_neg (by omega)])
    have D2 := Lib.hid (show dueW [(i, y)] y = ([i], []) by rw [one_due, if_pos (by omega)])
    go_wp2_with fail
    refine (next_st hs3).mono ?_
    rintro e w4 ⟨rfl, rfl⟩
    simp only [show rw_ [(i, y)] 0 = (i, y) from rfl]
    go_wp2_with fail
    refine (due_st hs3 (y - 1)).mono ?_
    rw [D1.out]
    rintro e w4 ⟨vo, v4, rfl, ho, hs4, _⟩
    obtain ⟨ao, cap, rfl, _, _⟩ := owns_shape ho
    clear ho
    go_wp2_with fail
    refine (due_st hs4 y).mono ?_
    rw [D2.out]
    rintro e w5 ⟨vp, v5, rfl, hp, hs5, _⟩
    obtain ⟨g, cap', rfl⟩ := owns_some hp (by simp)
    obtain ⟨_, hg, hn, hc, _, _, hcell⟩ := owns_block hp
    have c0 := hcell 0 (.int .i64 i) rfl
    simp only [List.length_cons, List.length_nil, Nat.zero_add] at hn
    clear hcell hp D1 D2
    go_wp2_with fail
    refine (due_st hs5 1000).mono ?_
    rw [show dueW [] 1000 = ([], []) from rfl]
    rintro e w6 ⟨vq, v6, rfl, hq, hs6, _⟩
    obtain ⟨aq, capq, rfl, _, _⟩ := owns_shape hq
    have hb := hs6.bel
    clear hq hs6 hs5 hs4 hs3
    go_wp2
    go_ret
    exact ⟨rfl, hb⟩

end Go.Proofs.Ytgjphckjhkdlnaa
