/- The walk of the law TimerFar. -/
import Derived.Test.YtgjphckjhkdlnaaTLawB
namespace Go.Proofs.Ytgjphckjhkdlnaa
open Go.RowKit

theorem dueW_all {M : List Rw} {now : Int} (h : ∀ r ∈ M, r.2 ≤ now) : dueW M now = (M.map (·.1), []) := by
  induction M with
  | nil => rfl
  | cons r t ih =>
    rw [dueW, if_pos (h r (by simp)), ih (fun x hx => h x (by simp [hx]))]; rfl

structure FarP (l : List Int) (M : List Rw) (k : Nat) : Prop where
  kl : k ≤ l.length
  len : M.length = k
  has : ∀ id, hasW M id = decide (0 ≤ id ∧ id < (k : Int))
  mem : ∀ r ∈ M, ∃ j : Nat, j < k ∧ r.1 = j ∧ r.2 = l.getD j 0

theorem far_start (l : List Int) : FarP l [] 0 := ⟨by simp, by simp, fun id => by simp [hasW]; try omega, by simp⟩
theorem far_step {l : List Int} {M : List Rw} {k : Nat} (h : FarP l M k) (hk : k < 20) (hl : k < l.length) : (setW M k l[k]).2 = 0 ∧ FarP l (setW M k l[k]).1 (k + 1) := by
  have hn : hasW M k = false := by rw [h.has]; simp; try omega
  have e : setW M k l[k] = (insW M (k, l[k]), 0) := by
    rw [setW, if_neg (by omega), if_neg (by have := h.len; omega), remW_none hn]
  rw [e]
  refine ⟨rfl, by omega, ?_, fun id => ?_, fun r hr => ?_⟩
  · have := (perm_insW M ((k : Int), l[k])).length_eq
    rw [this, List.length_cons, h.len]
  · rw [hasW_insW, h.has, Bool.eq_iff_iff]
    simp; omega
  · rcases mem_insW.1 hr with rfl | hr
    · exact ⟨k, by omega, rfl, by simp [hl]⟩
    · obtain ⟨j, hj, e1, e2⟩ := h.mem r hr
      exact ⟨j, by omega, e1, e2⟩

theorem srt_next {M : List Rw} (h : Srt M) (k : Nat) (hk : k + 1 < M.length) : ltW (M[k]'(by omega)) M[k + 1] := List.pairwise_iff_getElem.1 h.1 k (k + 1) (by omega) hk (by omega)

set_option maxRecDepth 100000 in
set_option maxHeartbeats 4000000 in
theorem far_walk (v : Value) (l : List Int) (w : World) (h : SlI w v l) (hI : I64 l) :
    Calls Try.prog 6 #[v] w fun e w' => e = .returned (.bool true) ∧ Below w.heap.size w w' := by
  obtain ⟨ao, cap, rfl, hcap, hm⟩ := Sl.shape h
  go_enter Try.func6, Try.ntmps6
  go_wp2_with fail
  refine (known_any _).mono ?_
  rintro e w0 ⟨rfl, hb0⟩
  go_wp2_with fail
  refine (new_st w w0 hb0).mono ?_
  rintro e w1 ⟨rfl, hs1, _⟩
  generalize w0.heap.size = T at *
  go_upto_block 0 with fail
  go_cut [4] (fun v4 wx => ∃ v M, v4 = .int .i64 (M.length : Int) ∧ St w wx T v M ∧ FarP l M M.length)
  case first =>
    go_wp2
    go_loopw [4, 5] (fun v4 vk wr => ∃ (k : Nat) (v : Value) (M : List Rw), k ≤ l.length ∧ k ≤ 20 ∧ vk = .int .i64 k ∧ v4 = .int .i64 k ∧ St w wr T v M ∧ FarP l M k) (fun _ vk _ => 20 - (intOf vk).toNat)
    case atStart => exact ⟨0, _, [], Nat.zero_le _, Nat.zero_le _, rfl, rfl, hs1, far_start l⟩
    case round =>
      clear hs1
      obtain ⟨k, v, M, hk, hk20, rfl, rfl, hs, hP⟩ := hrel
      by_cases hgo : k < l.length ∧ k < 20
      · obtain ⟨hlt, h20⟩ := hgo
        obtain ⟨b, off, rfl, hbl, hc⟩ := h.cell hs.bel (Nat.le_refl _) k hlt
        obtain ⟨m1, m2⟩ := far_step hP h20 hlt
        have HM2 := Lib.hid m2
        have HS := Lib.hid (set_st hs k l[k])
        rw [m1] at HS
        generalize l[k] = x at *
        clear m1 m2 hP
        go_wp2_with fail
        refine HS.out.mono ?_
        rintro e w4 ⟨rfl, v4, hs4, _⟩
        go_wp2
        go_roundw
        case rel => exact ⟨k + 1, v4, _, by omega, by omega, by go_num, by go_num, hs4, HM2.out⟩
        case measure => simp [intOf]; omega
      · have hPL := hP.len
        rcases Nat.lt_or_ge k l.length with h1 | h1
        · have d1 : decide ((k : Int) < 20) = false := by simp; omega
          have d2 : decide (k < 20) = false := by simp; omega
          have HPL := Lib.hid hPL
          clear hgo hPL
          go_wp2
          go_meet
          exact ⟨v, M, by rw [HPL.out], hs, by rw [HPL.out]; exact hP⟩
        · have d1 : decide (k < l.length) = false := by simp; omega
          have HPL := Lib.hid hPL
          clear hgo hPL
          go_wp2
          go_meet
          exact ⟨v, M, by rw [HPL.out], hs, by rw [HPL.out]; exact hP⟩
  case rest =>
  clear hs1
  obtain ⟨v, M, rfl, hs, hP⟩ := hcut
  have hall := Lib.hid (dueW_all (M := M) (now := 9223372036854775807) (fun r hr => by
    obtain ⟨j, hj, _, e⟩ := hP.mem r hr
    have hjl := hP.kl
    rw [e]
    have := hI l[j] (List.getElem_mem (by omega))
    simp [show j < l.length by omega]; omega))
  have hML : M.length ≤ 100 := hs.len
  have hsrt := Lib.hid hs.srt
  go_wp2_with fail
  refine (due_st hs 9223372036854775807).mono ?_
  rw [hall.out]
  rintro e w4 ⟨vo, v4, rfl, ho, hs4, _⟩
  have hsl : SlI w4 vo (M.map (·.1)) := sl_of_owns ho
  have hb4 := hs4.bel
  have hsh := hsl
  obtain ⟨aol, capl, rfl, hcapl, hml⟩ := Sl.shape hsh
  have HP := Lib.hid hP
  clear ho hs4 hs hP hall hsh
  have hlm : (M.map (·.1)).length = M.length := by simp
  rw [hlm] at hcapl hsl ⊢
  have hz4 := hb4.size
  go_wp2
  go_loopw [7] (fun vi wr => ∃ k : Nat, vi = .int .i64 ((k : Int) + 1) ∧ k ≤ M.length ∧ Below w4.heap.size w4 wr) (fun vi _ => M.length + 1 - (intOf vi).toNat)
  case atStart => exact ⟨0, rfl, Nat.zero_le _, Below.refl _ _⟩
  case round =>
    obtain ⟨k, rfl, hk, hb⟩ := hrel
    rcases Nat.lt_or_ge (k + 1) M.length with hlt | hge
    · have hsl' : SlI w4 (.slice aol (M.map (·.1)).length capl) (M.map (·.1)) := by rw [hlm]; exact hsl
      obtain ⟨b, off, rfl, hbl, a1⟩ := hsl'.cell hb (Nat.le_refl _) k (by simp; omega)
      obtain ⟨b9, off9, hbe, hbl9, a2⟩ := hsl'.cell hb (Nat.le_refl _) (k + 1) (by simp; omega)
      injection hbe with hbe
      injection hbe with h1 h2 _
      subst h1 h2
      obtain ⟨j, hj, e1, e2⟩ := HP.out.mem M[k] (List.getElem_mem _)
      obtain ⟨j', hj', e1', e2'⟩ := HP.out.mem M[k + 1] (List.getElem_mem _)
      have hkl := HP.out.kl
      have hjl : j < l.length := by omega
      have hjl' : j' < l.length := by omega
      obtain ⟨c, offc, rfl, hcl, x1⟩ := h.cell (hb4.trans (hb.mono hz4)) (Nat.le_refl _) j hjl
      obtain ⟨c9, offc9, hce, _, x2⟩ := h.cell (hb4.trans (hb.mono hz4)) (Nat.le_refl _) j' hjl'
      injection hce with hce
      injection hce with h1 h2 _
      subst h1 h2
      have hS := srt_next hsrt.out k hlt
      rw [List.getElem_map, e1] at a1
      rw [List.getElem_map, e1'] at a2
      unfold ltW at hS
      rw [e1, e1', e2, e2', List.getD_eq_getElem?_getD, List.getD_eq_getElem?_getD, List.getElem?_eq_getElem hjl, List.getElem?_eq_getElem hjl'] at hS
      simp only [Option.getD_some] at hS
      have i1 : (0 : Int) ≤ (k : Int) + 1 := by omega
      have i2 : (k : Int) + 1 < M.length := by omega
      have i3 : ((k : Int) + 1).toNat = k + 1 := by omega
      have i4 : IntKind.i64.wrap ((k : Int) + 1 - 1) = (k : Int) := by rw [show (k : Int) + 1 - 1 = k by omega]; exact IntWalk.i64_in _ (by omega)
      have i5 : (k : Int) < M.length := by omega
      have i6 : IntKind.i64.wrap ((k : Int) + 1 + 1) = (k : Int) + 1 + 1 := IntWalk.i64_in _ (by omega)
      have i7 : IntKind.i64.wrap (k : Int) = (k : Int) := IntWalk.i64_in _ (by omega)
      have i8 : (j : Int) < l.length := by omega
      have i9 : (j' : Int) < l.length := by omega
      generalize l[j] = x at *
      generalize l[j'] = y at *
      clear e1 e1' e2 e2'
      have g1 : decide (y < x) = false := by simp; omega
      by_cases hx : x = y
      · subst hx
        have g2 : decide ((j' : Int) < (j : Int)) = false := by simp; omega
        have g3 : decide (j' < j) = false := by simp; omega
        clear hS
        go_wp2
        go_quiet (fail)
        go_wp2
        go_quiet (fail)
        go_wp2
        go_roundw
        case rel => exact ⟨k + 1, by go_num, by omega, below_drewN hb _⟩
        case measure => simp [intOf]; omega
      · have g2 : (x == y) = false := by simpa using hx
        clear hS hx
        go_wp2
        go_quiet (fail)
        go_wp2
        go_quiet (fail)
        go_wp2
        go_roundw
        case rel => exact ⟨k + 1, by go_num, by omega, below_drewN hb _⟩
        case measure => simp [intOf]; omega
    · have dk : decide ((k : Int) + 1 < M.length) = false := by simp; omega
      go_wp2
      go_ret
      exact ⟨by simp, hb4.trans (hb.mono hz4)⟩

end Go.Proofs.Ytgjphckjhkdlnaa
