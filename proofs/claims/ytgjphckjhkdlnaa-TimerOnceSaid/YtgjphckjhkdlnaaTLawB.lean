/- The walk of the law TimerMany. -/
import Derived.Test.YtgjphckjhkdlnaaTLawA
namespace Go.Proofs.Ytgjphckjhkdlnaa
open Go.RowKit

theorem hasW_insW (M : List Rw) (r : Rw) (id : Int) : hasW (insW M r) id = (decide (r.1 = id) || hasW M id) := by
  rw [perm_hasW (perm_insW M r)]; simp [hasW]
theorem insW_head {M : List Rw} {r : Rw} (h : ∀ x ∈ M, ltW r x) : insW M r = r :: M := by
  cases M with
  | nil => rfl
  | cons x t =>
    have := h x (by simp)
    rw [insW, if_neg (by unfold ltW at *; omega)]

structure ManyP (M : List Rw) (k : Nat) : Prop where
  len : M.length = min k 100
  has : ∀ id, hasW M id = decide (0 ≤ id ∧ id < min k 100)
  tm : ∀ r ∈ M, 0 ≤ r.2

theorem many_start : ManyP [] 0 := ⟨by simp, fun id => by simp [hasW]; try omega, by simp⟩
theorem many_low {M : List Rw} {k : Nat} (h : ManyP M k) (hk : k < 100) : (setW M k (1000 - k)).2 = 0 ∧ ManyP (setW M k (1000 - k)).1 (k + 1) := by
  have hn : hasW M k = false := by rw [h.has]; simp; try omega
  have e : setW M k (1000 - k) = (insW M (k, 1000 - k), 0) := by
    rw [setW, if_neg (by omega), if_neg (by have := h.len; omega), remW_none hn]
  rw [e]
  refine ⟨rfl, ?_, fun id => ?_, fun r hr => ?_⟩
  · have := (perm_insW M ((k : Int), 1000 - (k : Int))).length_eq
    rw [this, List.length_cons, h.len]; omega
  · rw [hasW_insW, h.has, Bool.eq_iff_iff]
    simp; omega
  · rcases mem_insW.1 hr with rfl | hr
    · simp only; omega
    · exact h.tm r hr
theorem many_high {M : List Rw} {k : Nat} (h : ManyP M k) (hk : 100 ≤ k) : setW M k (1000 - k) = (M, 4) ∧ ManyP M (k + 1) := by
  have hn : hasW M k = false := by rw [h.has]; simp; try omega
  refine ⟨by rw [setW, if_neg (by omega), if_pos ⟨hn, by have := h.len; omega⟩], by have := h.len; omega, fun id => ?_, h.tm⟩
  rw [h.has, Bool.eq_iff_iff]
  simp; omega
theorem many_end {M : List Rw} {k : Nat} (h : ManyP M k) (hs : Srt M) (q : Int) (hq : 0 ≤ q) (hq2 : q < min k 100) :
    ∃ M', setW M q (-7) = (M', 0) ∧ M'.length = min k 100 ∧ M' ≠ [] ∧ (rw_ M' 0).2 = -7 := by
  have hh : hasW M q = true := by rw [h.has]; simp; omega
  have he : insW (remW M q) (q, -7) = (q, -7) :: remW M q := insW_head (fun x hx => by
    have := h.tm x (mem_remW.1 hx).1
    unfold ltW; simp only; omega)
  refine ⟨_, by rw [setW, if_neg (by omega), if_neg (by rw [hh]; simp)], ?_, ?_, ?_⟩
  · rw [he, List.length_cons, length_remW hs, hh, h.len]; simp; omega
  · rw [he]; simp
  · rw [he]; rfl

set_option maxRecDepth 100000 in
set_option maxHeartbeats 4000000 in
theorem many_walk (n0 again : Int) (w : World) :
    Calls Try.prog 4 #[.int .i64 n0, .int .i64 again] w fun e w' => e = .returned (.bool true) ∧ Below w.heap.size w w' := by
  have q1 := Int.emod_nonneg n0 (show (110 : Int) ≠ 0 by omega)
  have q2 := Int.emod_lt_of_pos n0 (show (0 : Int) < 110 by omega)
  go_enter Try.func4, Try.ntmps4
  go_wp2_with fail
  refine (known_any _).mono ?_
  rintro e w0 ⟨rfl, hb0⟩
  go_wp2_with fail
  refine (within_any _ 110 _ (by omega) (by omega)).mono ?_
  rintro e w2 ⟨rfl, rfl⟩
  obtain ⟨n, hn⟩ : ∃ n : Nat, n0 % 110 = n := ⟨(n0 % 110).toNat, by omega⟩
  rw [hn] at q1 q2 ⊢
  have hn2 : n < 110 := by omega
  clear hn
  go_wp2_with fail
  refine (new_st w w0 hb0).mono ?_
  rintro e w1 ⟨rfl, hs1, _⟩
  generalize w0.heap.size = T at *
  go_upto_block 0 with fail
  go_cut [] (fun wx => ∃ v M, St w wx T v M ∧ ManyP M n)
  case first =>
    go_wp2
    go_loopw [6] (fun vk wr => ∃ (k : Nat) (v : Value) (M : List Rw), k ≤ n ∧ vk = .int .i64 k ∧ St w wr T v M ∧ ManyP M k) (fun vk _ => n - (intOf vk).toNat)
    case atStart => exact ⟨0, _, [], Nat.zero_le _, rfl, hs1, many_start⟩
    case round =>
      clear hs1
      obtain ⟨k, v, M, hk, rfl, hs, hP⟩ := hrel
      rcases Nat.lt_or_ge k n with hlt | hge
      · rcases Nat.lt_or_ge k 100 with h100 | h100
        · obtain ⟨m1, m2⟩ := many_low hP h100
          have HM2 := Lib.hid m2
          have HS := Lib.hid (set_st hs k (1000 - k))
          rw [m1] at HS
          have k1 : (k : Int) < 100 := by omega
          clear m1 m2 hP
          go_wp2_with fail
          refine HS.out.mono ?_
          rintro e w4 ⟨rfl, v4, hs4, _⟩
          go_wp2
          go_roundw
          case rel => exact ⟨k + 1, v4, _, by omega, by go_num, hs4, HM2.out⟩
          case measure => simp [intOf]; omega
        · obtain ⟨m1, m2⟩ := many_high hP h100
          have HM2 := Lib.hid m2
          have HS := Lib.hid (set_st hs k (1000 - k))
          rw [m1] at HS
          have k1 : decide ((k : Int) < 100) = false := by simp; omega
          have k2 : decide (k < 100) = false := by simp; omega
          clear m1 m2 hP
          go_wp2_with fail
          refine HS.out.mono ?_
          rintro e w4 ⟨rfl, v4, hs4, _⟩
          go_wp2
          go_roundw
          case rel => exact ⟨k + 1, v4, _, by omega, by go_num, hs4, HM2.out⟩
          case measure => simp [intOf]; omega
      · have hkn : k = n := by omega
        subst hkn
        go_wp2
        go_meet
        exact ⟨v, M, hs, hP⟩
  case rest =>
  clear hs1
  obtain ⟨v, M, hs, hP⟩ := hcut
  by_cases h0 : n = 0
  · subst h0
    have hM : M = [] := List.eq_nil_of_length_eq_zero (by have := hP.len; simpa using this)
    subst hM
    clear hP
    go_wp2_with fail
    refine (len_st hs).mono ?_
    rintro e w4 ⟨rfl, rfl⟩
    go_wp2_with fail
    refine (set_st hs (-1) 5).mono ?_
    rw [show setW [] (-1) 5 = ([], 1) from rfl]
    rintro e w5 ⟨rfl, v5, hs5, _⟩
    have hb := hs5.bel
    clear hs5 hs
    go_wp2
    go_ret
    exact ⟨rfl, hb⟩
  · have e0 : ((n : Int) == 0) = false := by rw [beq_eq_false_iff_ne]; omega
    have HP := Lib.hid hP
    have H0 := Lib.hid h0
    clear hP h0
    by_cases hA : (n : Int) ≤ 100
    · have dA : decide ((100 : Int) < n) = false := by simp; omega
      have dB : decide (100 < n) = false := by simp; omega
      have r1 := Int.emod_nonneg again (show (n : Int) ≠ 0 by have := H0.out; omega)
      have r2 := Int.emod_lt_of_pos again (show (0 : Int) < n by have := H0.out; omega)
      go_wp2_with fail
      refine (within_any _ _ _ (by first | omega | (have := H0.out; omega)) (by omega)).mono ?_
      rintro e w4 ⟨rfl, rfl⟩
      obtain ⟨q, hq⟩ : ∃ q, again % n = q := ⟨_, rfl⟩
      rw [hq] at r1 r2 ⊢
      obtain ⟨M', f1, f2, f3, f4⟩ := many_end HP.out hs.srt q r1 (by omega)
      have HS := Lib.hid (set_st hs q (-7))
      rw [f1] at HS
      simp only at HS
      have hml : M'.length = n := by omega
      clear hq f1 f2
      go_wp2_with fail
      refine HS.out.mono ?_
      rintro e w5 ⟨rfl, v5, hs5, _⟩
      have HN := Lib.hid (next_st hs5)
      rw [f4] at HN
      simp only [ne_eq, f3, not_false_eq_true, decide_true] at HN
      have HL := Lib.hid (len_st hs5)
      rw [hml] at HL
      have hb := hs5.bel
      clear f3 f4 hml hs5 hs HS
      go_wp2_with fail
      refine HN.out.mono ?_
      rintro e w6 ⟨rfl, rfl⟩
      go_wp2_with fail
      refine HL.out.mono ?_
      rintro e w6 ⟨rfl, rfl⟩
      go_wp2
      go_ret
      exact ⟨by simp, hb⟩
    · have dA : (100 : Int) < n := by omega
      have dB : decide ((n : Int) ≤ 100) = false := by simpa using hA
      clear hA
      have r1 := Int.emod_nonneg again (show (100 : Int) ≠ 0 by have := H0.out; omega)
      have r2 := Int.emod_lt_of_pos again (show (0 : Int) < 100 by omega)
      go_wp2_with fail
      refine (within_any _ _ _ (by first | omega | (have := H0.out; omega)) (by omega)).mono ?_
      rintro e w4 ⟨rfl, rfl⟩
      obtain ⟨q, hq⟩ : ∃ q, again % 100 = q := ⟨_, rfl⟩
      rw [hq] at r1 r2 ⊢
      obtain ⟨M', f1, f2, f3, f4⟩ := many_end HP.out hs.srt q r1 (by omega)
      have HS := Lib.hid (set_st hs q (-7))
      rw [f1] at HS
      simp only at HS
      have hml : M'.length = 100 := by omega
      clear hq f1 f2
      go_wp2_with fail
      refine HS.out.mono ?_
      rintro e w5 ⟨rfl, v5, hs5, _⟩
      have HN := Lib.hid (next_st hs5)
      rw [f4] at HN
      simp only [ne_eq, f3, not_false_eq_true, decide_true] at HN
      have HL := Lib.hid (len_st hs5)
      rw [hml] at HL
      have hb := hs5.bel
      clear f3 f4 hml hs5 hs HS
      go_wp2_with fail
      refine HN.out.mono ?_
      rintro e w6 ⟨rfl, rfl⟩
      go_wp2_with fail
      refine HL.out.mono ?_
      rintro e w6 ⟨rfl, rfl⟩
      go_wp2
      go_ret
      exact ⟨by simp, hb⟩

end Go.Proofs.Ytgjphckjhkdlnaa
